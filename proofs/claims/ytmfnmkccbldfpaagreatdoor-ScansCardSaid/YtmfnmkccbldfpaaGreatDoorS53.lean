/- Part of a proof. No condition. -/
import Derived.Test.YtmfnmkccbldfpaaGreatDoorS50
import Derived.Test.YtmfnmkccbldfpaaGreatDoorS52
import Derived.Test.YtmfnmkccbldfpaaGreatDoorS26
set_option linter.unusedVariables false
set_option linter.unusedSimpArgs false
namespace Go.Proofs.YtmfnmkccbldfpaaGreatDoor
open Go.RowKit Go.Lib Tryz
def OkC (sT:List η) (ts:List aL) (M:Mk) (rU:List Int) (gO:List (List Int)):Prop:=(1<=I sT/\I sT<=8)/\mQ sT (I sT) ts M/\
 cO (LoC ts) ((bG (LoC ts).cL).map (bP (LoC ts).cL)) 202 [(1,0)] [] []=some (rU,gO)
section
variable {sT:List η} {ts:List aL} {M:Mk} {rU:List Int} {gO:List (List Int)}
theorem make_ok (h8:I sT<=8) (hf:mQ sT (I sT) ts M):MakeOk (LoC ts):=by
 have hr:=zb2 hf h8;obtain⟨f,s2,Qv⟩:=zet hr;obtain⟨hS,_⟩:=laid Qv;have:=hr.pl;have:=hr.cU;refine⟨by rw[hS.len];omega,by rw[hS.len];omega,λc hc=> ?_,by rw[hS.cL];omega,hS.lr,hS.lf,hS.fok⟩;rw[hS.cL] at hc
 rcases List.mem_cons.1 hc with rfl|hc
 . intro r hr;cases hr
 exact hr.rng c hc
theorem zio {e:Nat} {i k:Int} (hV:VerC LoC sT e i k) (w:ω) (g cap:Nat) (Hb:w.r 9 1 (σ g (I sT) cap) (I sT) (sT.map Value.string)) (hl:I sT<=900000) (hG:Gl w):
 Γ 16 #[σ g (I sT) cap] w (CmpR (.err e i k) w):=by
 cases hV with
 | count h=>exact cmp_count sT w g cap h hl
 | size i s h hs hb hf=>exact cmp_size sT w g cap i s h Hb hs hb hf
 | parse i s ts M er h hf hs he h0=>
  obtain⟨f,hv⟩:=lay_parse h.2 hf hs he;exact zd5 sT w g cap f _ _ h hf.small Hb hG.tabs hG.wid hG.size hG.err hv ⟨h0,rfl⟩
 | full i s ts M t h hf hs ht ho=>
  obtain⟨f,hv⟩:=lay_full h.2 hf hs ht ho;exact zd5 sT w g cap f _ _ h hf.small Hb hG.tabs hG.wid hG.size hG.err hv ⟨zd,rfl⟩
 | states ts M h hf hm=>
  obtain⟨f,s2,_,_,hv⟩:=lay_all h.2 hf;exact zd5 sT w g cap f _ _ h hf.small Hb hG.tabs hG.wid hG.size hG.err hv ⟨make_ok h.2 hf,.inl ⟨hm,rfl⟩⟩
structure TabOf (sT:List η) (ts:List aL) (rU:List Int) (gO:List (List Int)) (T:dX):Prop where
 make:MakeH (LoC ts) T rU gO
 tc:T.cU=bG (LoC ts).cL
 tr:T.rU=rU
 tg:T.gO=gO
 wf:yV T (I sT)
theorem tab_of (h:OkC sT ts M rU gO):∃ T,TabOf sT ts rU gO T:=by
 obtain⟨A6,hf,hm⟩:=h;have hr:=zb2 hf A6.2;obtain⟨f,s2,Qv⟩:=zet hr;obtain⟨sE,fb,Hx,b2,h1,h2,hb,hC⟩:=comp_laid A6.1 A6.2 hf.small (λi s hs=>hf.parse i s (pO hs) hs) hf.len hr.pl hr.cst hr.rng (by have:=hr.cU;omega) Qv rU gO hm;have hw:=hC.wf;exact⟨⟨bG (LoC ts).cL,rU,gO,if b2.round then -1 else Hx+1⟩,⟨I sT,fb,Hx,b2,hw,hb,hC.fin,hC.goesN,rfl⟩,rfl,rfl,rfl,⟨hw.rise,hw.head,hw.top,hw.some',hw.rules,hw.rows,hw.cells,hw.ruleR⟩⟩
theorem cmp_of_ok (h:OkC sT ts M rU gO) {T:dX} (hT:TabOf sT ts rU gO T) (w:ω) (g cap:Nat) (Hb:w.r 9 1 (σ g (I sT) cap) (I sT) (sT.map Value.string)) (hG:Gl w):
 Γ 16 #[σ g (I sT) cap] w (CmpR (.ok T) w):=by
 obtain⟨A6,hf,hm⟩:=h;obtain⟨f,s2,_,_,hv⟩:=lay_all A6.2 hf;exact zd5 sT w g cap f _ _ A6 hf.small Hb hG.tabs hG.wid hG.size hG.err hv ⟨make_ok A6.2 hf,.inr ⟨rU,gO,T,hm,hT.make,rfl⟩⟩
structure SameT (T:dX) (D:TD) (R:Nat):Prop where
 wf:yV T R
 bnd:BndH D T (I T.rU) (I T.cU)
 cut:(55296:Int)∈T.cU
def RefV (V:VRes) (w:ω) (e:Ending) (w':ω):Prop:=w.u w'/\match V with
 | .err er i k=>e=ρ (ϕ #[Φ none,ι er,ι i,ι k])
 | .ok ts rU gO=>∃ tb D S,gW tb D S w'/\w.t<=tb/\e=ρ (ϕ #[bH tb,ι 0,ι 0,ι 0])/\∀ sT T,TabOf sT ts rU gO T->SameT T D (I sT)
theorem bnd_bound {D:TD} {T T2:dX} {n m:Nat} (h:BndH D T n m) (h1:T2.cU=T.cU) (h2:T2.rU=T.rU) (h3:T2.gO=T.gO):BndH D T2 n m:=by
 obtain⟨c,r,g,b⟩:=T;obtain⟨c2,r2,g2,b2⟩:=T2;cases h1;cases h2;cases h3;exact⟨h.c,h.g,h.ns,h.ng,h.nm,h.rows,h.to',h.wid,h.rU,h.rl,h.s1,h.n1,h.m1⟩
theorem ref_any (sT:List η) (w:ω) (v:Value) (Hb:w.r 9 1 v (I sT) (sT.map Value.string)) (hl:I sT<=900000) (h0:0<w.heap.size):
 Γ 18 #[v] w (RefV (verP sT) w):=by
 refine (zbK LoC sT w v Hb zo h0 (λh8=>loC_ok h8)).mono ?_;rintro e w' ⟨hb,⟨er,i,k,hv,he⟩|⟨tb,ts,M,rU,gO,sE,D,S,A6,hf,hm,hg,Ho,hR,hc,Qg,hs,xu,ht,Hf,he⟩⟩
 . rw[ver_of hv]
   exact⟨hb,he⟩
 rw[ver_ok A6 hf hm]
 refine⟨hb,tb,D,S,ht,Hf,he,λstrs2 T hT=> ?_⟩;have Hq:=loC_ok A6.2 ts M hf;have hB:=bnd_of hg Ho hR hc Qg hs (zhA Hq hR) Hq.cl;have h2:=bnd_bound hB hT.tc hT.tr hT.tg;refine⟨hT.wf,by rw[hT.tr,hT.tc];exact h2,?_⟩;rw[hT.tc];exact (kI _).2 _ |>.2 (List.mem_append_left _ zd)
theorem ver_total (sT:List η) (w:ω) (v:Value) (Hb:w.r 9 1 v (I sT) (sT.map Value.string)) (hl:I sT<=900000) (h0:0<w.heap.size):
 (∃ e i k,VerC LoC sT e i k/\verP sT=.err e i k)\/∃ ts M rU gO,OkC sT ts M rU gO/\verP sT=.ok ts rU gO:=by
 obtain⟨_,_,_,⟨_,hR⟩,_⟩:=zbK LoC sT w v Hb zo h0 (λh8=>loC_ok h8) []
 rcases hR with⟨er,i,k,hv,_⟩|⟨tb,ts,M,rU,gO,sE,D,S,A6,hf,hm,_⟩
 . grind [ver_of]
 exact .inr ⟨ts,M,rU,gO,⟨A6,hf,hm⟩,ver_ok A6 hf hm⟩
