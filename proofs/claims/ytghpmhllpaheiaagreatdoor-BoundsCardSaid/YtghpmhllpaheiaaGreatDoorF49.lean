/- Part of a proof. No condition. -/
import Derived.Test.YtghpmhllpaheiaaGreatDoorF45
import Derived.Test.YtghpmhllpaheiaaGreatDoorF48
import Derived.Test.YtghpmhllpaheiaaGreatDoorF27
set_option linter.unusedVariables false
set_option linter.unusedSimpArgs false
namespace Go.Proofs.YtghpmhllpaheiaaGreatDoor
open Go.RowKit Go.Lib
def OkC (sT:List ByteArray) (ts:List aJ) (M:Mk) (rU:List Int) (gO:List (List Int)):Prop:=(1<=sT.length/\sT.length<=8)/\kE sT sT.length ts M/\
 bU (LoC ts) ((bB (LoC ts).cL).map (bG (LoC ts).cL)) 202 [(1,0)] [] []=some (rU,gO)
section
variable {sT:List ByteArray} {ts:List aJ} {M:Mk} {rU:List Int} {gO:List (List Int)}
theorem make_ok (h8:sT.length<=8) (hf:kE sT sT.length ts M):MakeOk (LoC ts):=by
 have hr:=zav hf h8;obtain⟨f,s2,yy⟩:=zcd hr;obtain⟨hS,_⟩:=laid yy;have xp:=hr.pl;have hcu:=hr.cU;refine⟨by rw[hS.len];omega,by rw[hS.len];omega,λc hc=> ?_,by rw[hS.cL];omega,hS.lr,hS.lf,hS.fok⟩;rw[hS.cL] at hc
 rcases List.mem_cons.1 hc with rfl|hc
 . intro r hr;cases hr
 exact hr.rng c hc
theorem zfq {e:Nat} {i k:Int} (hV:vZ LoC sT e i k) (w:World) (g cap:Nat) (Hb:w.ownsRow 0 9 1 (.slice (some ⟨g,0,none⟩) sT.length cap) sT.length (sT.map Value.string)) (hl:sT.length<=900000) (hG:Gl w):
 Calls Tryz.prog 24 #[.slice (some ⟨g,0,none⟩) sT.length cap] w (CmpR (.err e i k) w):=by
 cases hV with
 | count h=>exact cmp_count sT w g cap h hl
 | size i s h hs hb hf=>exact cmp_size sT w g cap i s h Hb hs hb hf
 | parse i s ts M er h hf hs he h0=>
  obtain⟨f,hv⟩:=lay_parse h.2 hf hs he;exact zbX sT w g cap f _ _ h hf.small Hb hG.tabs hG.wid hG.size hG.err hv ⟨h0,rfl⟩
 | full i s ts M t h hf hs ht ho=>
  obtain⟨f,hv⟩:=lay_full h.2 hf hs ht ho;exact zbX sT w g cap f _ _ h hf.small Hb hG.tabs hG.wid hG.size hG.err hv ⟨by decide,rfl⟩
 | states ts M h hf hm=>
  obtain⟨f,s2,_,_,hv⟩:=lay_all h.2 hf;exact zbX sT w g cap f _ _ h hf.small Hb hG.tabs hG.wid hG.size hG.err hv ⟨make_ok h.2 hf,.inl ⟨hm,rfl⟩⟩
structure TabOf (sT:List ByteArray) (ts:List aJ) (rU:List Int) (gO:List (List Int)) (T:iP):Prop where
 make:MakeH (LoC ts) T rU gO
 tc:T.cU=bB (LoC ts).cL
 tr:T.rU=rU
 tg:T.gO=gO
 wf:WfT T sT.length
 bound:∃ f,zcF f ⟨bB (LoC ts).cL,rU,gO,0⟩=some T.bound
theorem tab_of (h:OkC sT ts M rU gO):∃ T,TabOf sT ts rU gO T:=by
 obtain⟨tY,hf,hm⟩:=h;have hr:=zav hf tY.2;obtain⟨f,s2,yy⟩:=zcd hr;obtain⟨sE,fb,Hj,b2,h1,h2,hb,hC⟩:=comp_laid tY.1 tY.2 hf.small (λi s hs=>hf.parse i s (kI hs) hs) hf.len hr.pl hr.cst hr.rng (by have:=hr.cU;omega) yy rU gO hm;have hw:=hC.wf;refine⟨⟨bB (LoC ts).cL,rU,gO,if b2.round then -1 else Hj+1⟩,⟨sT.length,fb,Hj,b2,hw,hb,hC.fin,hC.goesN,rfl⟩,rfl,rfl,rfl,⟨hw.rise,hw.head,hw.top,hw.some',hw.rules,hw.rows,hw.cells,hw.ruleR⟩,fb,?_⟩;unfold zcF
 rw[show (⟨bB (LoC ts).cL,rU,gO,0⟩:iP).gO=gO from rfl,hb]
theorem cmp_of_ok (h:OkC sT ts M rU gO) {T:iP} (hT:TabOf sT ts rU gO T) (w:World) (g cap:Nat) (Hb:w.ownsRow 0 9 1 (.slice (some ⟨g,0,none⟩) sT.length cap) sT.length (sT.map Value.string)) (hG:Gl w):
 Calls Tryz.prog 24 #[.slice (some ⟨g,0,none⟩) sT.length cap] w (CmpR (.ok T) w):=by
 obtain⟨tY,hf,hm⟩:=h;obtain⟨f,s2,_,_,hv⟩:=lay_all tY.2 hf;exact zbX sT w g cap f _ _ tY hf.small Hb hG.tabs hG.wid hG.size hG.err hv ⟨make_ok tY.2 hf,.inr ⟨rU,gO,T,hm,hT.make,rfl⟩⟩
structure SameT (T:iP) (D:TD) (R:Nat):Prop where
 wf:WfT T R
 bnd:BndH D T T.rU.length T.cU.length
 eq:D.bound=T.bound
def RefV (V:VRes) (w:World) (e:Ending) (w':World):Prop:=Below w.heap.size w w'/\match V with
 | .err er i k=>e=.returned (.tuple #[.pointer none,.int .i64 er,.int .i64 i,.int .i64 k])
 | .ok ts rU gO=>∃ tb D S,fV tb D S w'/\w.heap.size<=tb/\e=.returned (.tuple #[bJ tb,.int .i64 0,.int .i64 0,.int .i64 0])/\∀ sT T,TabOf sT ts rU gO T->SameT T D sT.length
theorem bnd_bound {D:TD} {T T2:iP} {n m:Nat} (h:BndH D T n m) (h1:T2.cU=T.cU) (h2:T2.rU=T.rU) (h3:T2.gO=T.gO):BndH D T2 n m:=by
 obtain⟨c,r,g,b⟩:=T;obtain⟨c2,r2,g2,b2⟩:=T2;cases h1;cases h2;cases h3;exact⟨h.c,h.g,h.ns,h.ng,h.nm,h.rows,h.to',h.wid,h.rU,h.rl,h.s1,h.n1,h.m1⟩
theorem ref_any (sT:List ByteArray) (w:World) (v:Value) (Hb:w.ownsRow 0 9 1 v sT.length (sT.map Value.string)) (hl:sT.length<=900000) (h0:0<w.heap.size):
 Calls Tryz.prog 104 #[v] w (RefV (verP sT) w):=by
 refine (zal LoC sT w v Hb (by omega) h0 (λh8=>loC_ok h8)).mono ?_;rintro e w' ⟨hb,⟨er,i,k,hv,he⟩|⟨tb,ts,M,rU,gO,sE,D,S,tY,hf,hm,hg,Hg,hR,hc,ym,hs,Vd,ht,Hf,he⟩⟩
 . rw[ver_of hv]
   exact⟨hb,he⟩
 rw[ver_ok tY hf hm]
 refine⟨hb,tb,D,S,ht,Hf,he,λstrs2 T hT=> ?_⟩;have Hv:=loC_ok tY.2 ts M hf;have hB:=bnd_of hg Hg hR hc ym hs (zeL Hv hR) Hv.cl;obtain⟨f,x7⟩:=hT.bound;have M9:=bound_ref hB hg hm x7;refine⟨hT.wf,?_,Vd.trans M9⟩;have h2:=bnd_bound hB hT.tc hT.tr hT.tg;rw[hT.tr,hT.tc];exact h2
theorem ver_total (sT:List ByteArray) (w:World) (v:Value) (Hb:w.ownsRow 0 9 1 v sT.length (sT.map Value.string)) (hl:sT.length<=900000) (h0:0<w.heap.size):
 (∃ e i k,vZ LoC sT e i k/\verP sT=.err e i k)\/∃ ts M rU gO,OkC sT ts M rU gO/\verP sT=.ok ts rU gO:=by
 obtain⟨_,_,_,⟨_,hR⟩,_⟩:=zal LoC sT w v Hb (by omega) h0 (λh8=>loC_ok h8) []
 rcases hR with⟨er,i,k,hv,_⟩|⟨tb,ts,M,rU,gO,sE,D,S,tY,hf,hm,_⟩
 . exact .inl ⟨er,i,k,hv,ver_of hv⟩
 exact .inr ⟨ts,M,rU,gO,⟨tY,hf,hm⟩,ver_ok tY hf hm⟩
