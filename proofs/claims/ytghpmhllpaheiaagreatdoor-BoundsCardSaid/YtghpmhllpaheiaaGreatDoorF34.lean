/- Part of a proof. No condition. -/
import Derived.Deep.Upon
import Derived.Test.YtghpmhllpaheiaaGreatDoorF30
import Derived.Test.YtghpmhllpaheiaaGreatDoorF33
set_option linter.unusedVariables false
set_option linter.unusedSimpArgs false
set_option maxRecDepth 100000
set_option maxHeartbeats 8000000
namespace Go.Proofs.YtghpmhllpaheiaaGreatDoor
open Go.RowKit Go.Lib
variable {e:TypeId} {size mb i:Nat} {w w' u w2:World} {v v':Value} {l:List Nat} {ob:Obj}
section
variable {P:Program} (w:World)
theorem zbk {t:TypeId} {bytes:Nat} (E:eY P t e size bytes) (ty:TypeId) (v:Value) (n:Nat) (xs:List Value) (hown:w.ownsRow 0 e size v n xs)
 (x:Value) (m:Nat) (qh:List Value) (hx:w.ownsRow 0 e size x m qh) (h1:∀ u∈qh,u.oneCell'=true) (hb:n+m<=1000000000) (hbytes:bytes<=1000):
 ∃ v' w',(Builtin.append_ #[t,t] ty #[v,x]).run P w=.ok v' w'/\w'.ownsRow 0 e size v' (n+m) (xs++qh)/\w.grownBy w' v.ownBlock/\(v'.ownBlock=v.ownBlock\/v'.ownBlock=some w.heap.size):=by
 rcases Nat.eq_zero_or_pos m with h0|hm
 . subst h0
   have hn:qh=[]:=List.eq_nil_of_length_eq_zero (by simpa using hx.1);subst hn;obtain⟨i,z,hi,hz,Qc,hby,DV⟩:=E.info;have hs:Src P i.size t x 0 [] w:=by
    rcases bD hx with⟨rfl,_⟩|⟨g,cap,rfl,_,_⟩
    . exact Src.ofNil w E.und 0
    exact Src.ofSlice w E.und ⟨g,0,none⟩ 0 cap [] (by simp) (λj u h=>by simp at h) (λu h=>by cases h)
   refine⟨v,w,?_,by simpa using hown,⟨rfl,rfl,rfl,zR _,λ_ _ _=>rfl⟩,.inl rfl⟩
   rcases bD hown with⟨rfl,rfl⟩|⟨g,cap,rfl,hc,_⟩
   . exact run_append_nothing w t t ty e i E.und hi none 0 0 (zR _) x hs
   exact run_append_nothing w t t ty e i E.und hi _ n cap hc x hs
 rcases bD hx with⟨_,h0⟩|⟨g,cap,rfl,_,_⟩
 . omega
 exact qF w E ty v n xs hown ⟨g,0,none⟩ m cap qh hx.1 (hx.cells (g:=g) rfl) h1 hm hb hbytes
theorem mM {ops:Array Oper} {rest:List Oper} {o:Oper} {a:Act} {Q:Exit->Act->World->Prop} (KY:o.guard=none) (s x:Operand) {t:TypeId} {bytes:Nat}
 (ho:o.op=.call {callee:=.builtin .append,args:=#[s,x],argTypes:=#[t,t]}) (E:eY P t e size bytes)
 (v:Value) (n:Nat) (xs:List Value) (hs:a.eval s=v) (hown:w.ownsRow 0 e size v n xs)
 (u:Value) (m:Nat) (qh:List Value) (hx:a.eval x=u) (hu:w.ownsRow 0 e size u m qh) (h1:∀ u∈qh,u.oneCell'=true)
 (hb:n+m<=1000000000) (hbytes:bytes<=1000)
 (h:∀ v' w',w'.ownsRow 0 e size v' (n+m) (xs++qh)->w.grownBy w' v.ownBlock->(v'.ownBlock=v.ownBlock\/v'.ownBlock=some w.heap.size)->wpList P ops Q rest (a.put o.dst v') w'):wpList P ops Q (o::rest) a w:=
 wpList_plain KY λK hK=>by
  obtain⟨v',w',hr,h2,h3,h4⟩:=zbk (P:=P) w E o.type v n xs hown u m qh hu h1 hb hbytes;unfold Oper.wp execOp;simp only[ho,resolve,invoke,builtin,Sem.run_bind,Sem.run_pure,Result.andThen_ok,List.map_toArray,List.map_cons,List.map_nil,hs,hx,hr];exact hK _ _ (h v' w' h2 h3 h4)
end
def cW (w:World) (v:Value) (l:List Int):Prop:=w.ownsRow 0 3 1 v l.length (dE l)
theorem cW.below {l:List Int} (h:cW w v l) (hb:Below w.heap.size w w'):cW w' v l:=aZ h hb
theorem cW.nil (w:World):cW w (.slice none 0 0) []:=World.ownsRow_nil _ _ _ _
theorem cW.form {l:List Int} (h:cW w v l):∃ ao cap,v=.slice ao l.length cap:=by
 rcases bD h with⟨e,e'⟩|⟨g,cap,e,_⟩
 . exact⟨none,0,by rw[e,e']⟩
 exact⟨_,_,e⟩
theorem cW.lt {l:List Int} (h:cW w v l):∀ g,v.ownBlock=some g->g<w.heap.size:=λg hg=>by
 rcases bD h with⟨e,_⟩|⟨g',cap,e,_,hl⟩
 . rw[e] at hg;cases hg
 rw[e] at hg;cases hg;exact hl
theorem nums_one (l:List Int):∀ u∈dE l,u.oneCell'=true:=λu hu=>by
 obtain⟨_,_,rfl⟩:=List.mem_map.1 hu;rfl
theorem oS {l:List Int} {x:Int}:x∈l↔∃ j,j<l.length/\l.getD j 0=x:=by
 rw[List.mem_iff_getElem];constructor
 . rintro⟨j,h,e⟩
   exact⟨j,h,by rw[zLf,zLe h];exact e⟩
 rintro⟨j,h,e⟩
 rw[zLf,zLe h] at e;exact⟨j,h,e⟩
theorem has_any (v:Value) (l:List Int) (x:Int) (w:World) (h:cW w v l) (hl:l.length<=1000000):
 Calls Tryz.prog 153 #[v,.int .i64 x] w λe w'=>e=.returned (.bool (decide (x∈l)))/\w'=w:=by
 have hc:∀ i,i<l.length->∃ g cap,v=.slice (some ⟨g,0,none⟩) l.length cap/\w.cell? ⟨g,i,none⟩=some (.int .i64 (l.getD i 0)):=λi hi=>by
  rcases bD h with⟨_,h0⟩|⟨g,cap,e,_,hg⟩
  . omega
  subst e
  exact⟨g,cap,rfl,aE h i _ (fG hi)⟩
 have HC:=zh hc;have HL:=zh hl;obtain⟨ao,cap,rfl⟩:=h.form;clear h hc hl;go_enter Tryz.func153,Tryz.ntmps153;go_wp2_with (fail);go_loopw [5] (λs5 wr=>∃ i:Nat,s5=.int .i64 i/\i<=l.length/\(∀ j,j<i->l.getD j 0≠x)/\wr=w) (λs5 _=>l.length-(RowKit.intOf s5).toNat)
 case atStart=>exact⟨0,rfl,by omega,λj hj=>by omega,rfl⟩
 case round=>
  obtain⟨i,rfl,hi,xd,rfl⟩:=hrel;have K9:=zh xd;clear xd;by_cases Hf:i<l.length
  . obtain⟨g,Y7,e,c0⟩:=HC.o i Hf
    cases e;have zl:(i:Int)<(l.length:Int):=by omega
    have Xe:=zW i (by have:=HL.o;omega);obtain⟨u,hu⟩:=zE (l.getD i 0);rw[<-hu] at c0;by_cases he:u=x
    . have HE:zH (decide (x∈l)=true):=zh (decide_eq_true (oS.2 ⟨i,Hf,by rw[<-hu,he]⟩))
      have z:(u==x)=true:=by simp[he]
      clear he hu;go_wp2_with (fail);go_ret;exact⟨by rw[HE.o];rfl,rfl⟩
    have z:(u==x)=false:=by simp[he]
    have HU:=zh (zAi hu he);clear he hu;go_wp2_with (fail);go_roundw
    case rel=>exact⟨i+1,by go_num,by omega,(λj hj=>by
     by_cases e:j=i
     . subst e;rw[<-HU.o.1];exact HU.o.2
     . exact K9.o j (by omega)),trivial⟩
    case measure=>(simp[zI]<;>omega)
  have zl:¬ (i:Int)<(l.length:Int):=by omega
  have HE:zH (decide (x∈l)=false):=zh (decide_eq_false λhx=>by
   obtain⟨j,h1,h2⟩:=oS.1 hx;exact K9.o j (by omega) h2)
  go_wp2_with (fail);go_ret;exact⟨by rw[HE.o];rfl,rfl⟩
def pJ (n:Nat) (v:Value) (l:List Int) (w w':World):Prop:=cW w' v l/\(∀ g,v.ownBlock=some g->n<=g)/\Below n w w'
theorem jO (va vb:Value) (a b:List Int) (w:World) (ha:cW w va a) (hb:cW w vb b) (P0:a.length<=100000) (Hz:b.length<=100000):
 Calls Tryz.prog 128 #[va,vb] w λe w'=>∃ ao cap,e=.returned (.slice ao (cY a b).length cap)/\pJ w.heap.size (.slice ao (cY a b).length cap) (cY a b) w w':=by
 have HA:=zh ha;have HB:=zh hb;have TV:=zh (zAi P0 Hz);have wV:zH (∀ i,i<b.length->∃ g cap,vb=.slice (some ⟨g,0,none⟩) b.length cap/\g<w.heap.size/\w.cell? ⟨g,i,none⟩=some (.int .i64 (b.getD i 0))):=zh (λi hi=>by
  rcases bD hb with⟨_,h0⟩|⟨g,cap,e,_,hg⟩
  . omega
  subst e
  exact⟨g,cap,rfl,hg,aE hb i _ (fG hi)⟩)
 obtain⟨aob,cb,DQ⟩:=hb.form;obtain⟨aoa,ca,ug⟩:=ha.form;subst DQ ug;clear ha hb P0 Hz;go_enter Tryz.func128,Tryz.ntmps128;go_upto_region 3 with (at_builtin;refine mM _ rfl _ _ rfl mD _ _ _ rfl (by exact World.ownsRow_nil _ _ _ _) _ a.length (dE a) rfl (by exact HA.o) (nums_one a) (by have:=TV.o;omega) (by decide) ?_;intro v1 w1 qg Qq YB;have H1:=zh (zAi qg (zAi Qq YB));clear qg Qq YB)
 have HN:zH (pJ w.heap.size v1 a w w1):=zh ⟨by have h:=H1.o.1;rw[Nat.zero_add] at h;exact h,λg hg=>by
  rcases H1.o.2.2 with e|e
  . rw[hg] at e;cases e
  rw[hg] at e;cases e;exact zR _,(zBr _ w).grown H1.o.2.1 (zR _) (λg hg=>by cases hg)⟩
 clear H1;obtain⟨ao1,c1,Tv⟩:=HN.o.1.form;subst Tv;go_wp2_with (fail);go_loopw [5,6] (λs5 s6 wr=>∃ (i:Nat) (o:List Int) (ao:Option Addr) (cap:Nat),s6=.int .i64 i/\s5=.slice ao o.length cap/\i<=b.length/\o=cY a (b.take i)/\pJ w.heap.size (.slice ao o.length cap) o w wr) (λ_ s6 _=>b.length-(RowKit.intOf s6).toNat)
 case atStart=>exact⟨0,a,ao1,c1,rfl,rfl,by omega,rfl,HN.o⟩
 case round=>
  obtain⟨i,o,ao,cap,rfl,rfl,hi,ho,hN⟩:=hrel;have HO:=zh ho;have HN:=zh hN;have X6:o.length<=200000:=by
   have h1:=zca (b.take i) a;have h2:(b.take i).length<=b.length:=by rw[List.length_take];omega
   have:=TV.o;rw[ho];omega
  clear ho hN;by_cases Hf:i<b.length
  . obtain⟨g,Y7,e,hg,c0⟩:=wV.o i Hf
    cases e;have c0':wr.cell? ⟨g,i,none⟩=some (.int .i64 (b.getD i 0)):=(aL HN.o.2.2 ⟨g,i,none⟩ hg).trans c0;have lg:g<wr.heap.size:=zLd hg HN.o.2.2.size;have zl:(i:Int)<(b.length:Int):=by omega
    have Xe:=zW i (by have:=TV.o;omega);have Kt:b.take (i+1)=b.take i++[b.getD i 0]:=by
     rw[List.take_add_one,zLf,zLe Hf];rfl
    have V7:zH (cY a (b.take (i+1))=if b.getD i 0∈o then o else o++[b.getD i 0]):=zh (by
     rw[Kt,HO.o];unfold cY;rw[List.foldl_append];rfl)
    clear c0 Kt;generalize b.getD i 0=u at c0' V7;have HK:=zh (has_any (.slice ao o.length cap) o u wr HN.o.1 (by omega));by_cases hm:u∈o
    . rw[decide_eq_true hm] at HK
      have BI:zH (o=cY a (b.take (i+1))):=zh (by rw[V7.o,zP hm]);clear V7 hm;go_wp2_with (first|(go_at_call 153;refine HK.o.mono ?_;rintro e' w2 ⟨rfl,rfl⟩));go_roundw
      case rel=>exact⟨i+1,o,ao,cap,by go_num,rfl,by omega,BI.o,HN.o⟩
      case measure=>(simp[zI]<;>omega)
    rw[decide_eq_false hm] at HK
    have BI:zH (o++[u]=cY a (b.take (i+1))):=zh (by rw[V7.o,zN hm]);clear V7 hm;go_upto_region 8 with (go_at_call 153;refine HK.o.mono ?_;rintro e' w2 ⟨rfl,rfl⟩)
    go_wp2_with (first|(at_builtin;refine bK _ rfl _ _ rfl mD _ _ _ rfl (by exact aZ HN.o.1 ((zBr _ _).alloc (zR _) _)) ⟨w2.heap.size,0,none⟩ 1 1 [.int .i64 u] rfl rfl (cM _ #[.int .i64 u] _ _ rfl) (by simp[Value.oneCell']) (by decide) (by omega) (by decide) ?_;intro v4 w4 Ho qj Qb;have H4:=zh (zAi Ho (zAi qj Qb));clear Ho qj Qb));have EW:zH (pJ w.heap.size v4 (o++[u]) w w4):=zh (by
     have hr:=H4.o.1;have Qc:=HN.o.2.2.size;refine⟨by unfold cW dE;rw[zLn,List.map_append];exact hr,?_,?_⟩
     . exact fW H4.o.2.2 HN.o.2.1 (by simp;omega)
     exact gE (HN.o.2.2.trans ((zBr _ w2).alloc Qc _)) H4.o.2.1 (by simp;omega) HN.o.2.1)
    clear H4;obtain⟨YK,c4,U7⟩:=EW.o.1.form;subst U7;go_roundw
    case rel=>exact⟨i+1,o++[u],YK,c4,by go_num,rfl,by omega,BI.o,EW.o⟩
    case measure=>(simp[zI]<;>omega)
  have zl:¬ (i:Int)<(b.length:Int):=by omega
  have Nf:zH (o=cY a b):=zh (by rw[HO.o,List.take_of_length_le (by omega)]);clear HO;go_wp2_with (fail);go_ret;rw[<-Nf.o];exact⟨ao,cap,rfl,HN.o⟩
def eX (l:List Nat):List Int:=l.map λ(n:Nat)=>(n:Int)
theorem jX (a b:List Nat):eX (cY a b)=cY (eX a) (eX b):=zeK _ (λx y h=>by omega) b a
theorem bO (l:List Nat):(eX l).length=l.length:=by simp[eX]
abbrev Rng:=List (Int×Int)
structure MS where
 vR:Value
 vL:Value
 vF:Value
 fv:List Value
structure MD where
 rL:List (Value×Rng)
 last:List Int
 fL:List (List Nat)
 on:Bool
def xS (mb:Nat) (S:MS) (b:Nat):Prop:=b=mb\/S.vR.ownBlock=some b\/S.vL.ownBlock=some b\/S.vF.ownBlock=some b
def gJ (mb:Nat) (S:MS) (w:World) (v:Value) (l:List Nat):Prop:=cW w v (eX l)/\∀ g,v.ownBlock=some g->¬ xS mb S g
def sM (mb:Nat) (S:MS) (w:World) (v:Value) (l:Rng):Prop:=w.ownsRow 0 304 2 v l.length (eQ l)/\∀ g,v.ownBlock=some g->¬ xS mb S g
structure lG (B mb:Nat) (N:List Nd) (nl:Value) (D:MD) (S:MS) (w:World):Prop where
 blk:w.heap[mb]?=some (.cells #[nl,S.vR,S.vL,S.vF,.bool D.on] 271 (0,0))
 nrow:w.ownsRow 0 301 5 nl N.length (fU N)
 nfree:∀ g,nl.ownBlock=some g->¬ xS mb S g
 nrg:∀ d∈N,sM mb S w d.r d.rl
 rR:w.ownsRow 0 299 1 S.vR D.rL.length (D.rL.map (·.1))
 rr:∀ p∈D.rL,sM mb S w p.1 p.2
 lR:cW w S.vL D.last
 fR:w.ownsRow 0 39 1 S.vF D.fL.length S.fv
 fli:∀ (i:Nat) (v:Value),S.fv[i]?=some v->gJ mb S w v (D.fL.getD i [])
 a1:S.vR.ownBlock≠some mb/\S.vL.ownBlock≠some mb/\S.vF.ownBlock≠some mb
 a2:∀ g,S.vR.ownBlock=some g->S.vL.ownBlock≠some g/\S.vF.ownBlock≠some g
 a3:∀ g,S.vL.ownBlock=some g->S.vF.ownBlock≠some g
 low:0<B/\∀ b,xS mb S b->B<=b
structure lV (mb:Nat) (S S':MS) (w w':World):Prop where
 os:w'.os=w.os
 tape:w'.tape=w.tape
 output:w'.output=w.output
 size:w.heap.size<=w'.heap.size
 keep:∀ b,b<w.heap.size->¬ xS mb S b->w'.heap[b]?=w.heap[b]?
 new:∀ b,xS mb S' b->xS mb S b\/w.heap.size<=b
theorem lV.refl (mb:Nat) (S:MS) (w:World):lV mb S S w w:=⟨rfl,rfl,rfl,zR _,λ_ _ _=>rfl,λ_ h=>.inl h⟩
theorem lV.trans {S T U:MS} {v:World} (h:lV mb S T u v) (k:lV mb T U v w):lV mb S U u w:=
 ⟨k.os.trans h.os,k.tape.trans h.tape,k.output.trans h.output,zT h.size k.size,
  λb hb h1=>(k.keep b (zLd hb h.size) (λe=>by rcases h.new b e with e|e;exact h1 e;omega)).trans (h.keep b hb h1),
  λb hb=>by
   rcases k.new b hb with e|e
   . exact h.new b e
   exact .inr (zT h.size e)⟩
theorem lV.of_below {S:MS} (h:Below u.heap.size u w):lV mb S S u w:=⟨h.os,h.tape,h.output,h.size,λb hb _=>h.block b hb,λ_ h=>.inl h⟩
theorem lV.below {B:Nat} {S T:MS} (h:lV mb S T u w) (hB:B<=u.heap.size) (hl:∀ b,xS mb S b->B<=b):Below B u w:=
 ⟨h.os,h.tape,h.output,h.size,λb hb=>h.keep b (by omega) (λe=>by have:=hl b e;omega)⟩
theorem lV.set {S:MS} (b o:Nat) (u:Value) (h:xS mb S b):lV mb S S w (w.setCell ⟨b,o,none⟩ u):=
 ⟨rfl,rfl,rfl,by simp[World.setCell],λc _ hc=>aG _ _ _ _ (λe=>hc (by rw[e];exact h)),λ_ h=>.inl h⟩
theorem sM.lt {S:MS} {l:Rng} (h:sM mb S w v l):∀ g,v.ownBlock=some g->g<w.heap.size:=uR h.1
theorem gJ.keep {S T:MS} (h:gJ mb S w v l) (k:lV mb S T w w'):gJ mb T w' v l:=
 ⟨aU h.1 λg hg=>k.keep g (h.1.lt g hg) (h.2 g hg),λg hg e=>by
  rcases k.new g e with e|e
  . exact h.2 g hg e
  have:=h.1.lt g hg;omega⟩
theorem sM.keep {S T:MS} {l:Rng} (h:sM mb S w v l) (k:lV mb S T w w'):sM mb T w' v l:=
 ⟨aU h.1 λg hg=>k.keep g (h.lt g hg) (h.2 g hg),λg hg e=>by
  rcases k.new g e with e|e
  . exact h.2 g hg e
  have:=h.lt g hg;omega⟩
section
variable {B mb:Nat} {N:List Nd} {nl:Value} {D:MD} {S:MS} {w w':World}
theorem dP {n:Nat} {xs:List Value} (h:w.ownsRow 0 e size v n xs):∀ g,v.ownBlock=some g->g<w.heap.size:=λg hg=>(h.lt g hg).2
theorem lG.lt (h:lG B mb N nl D S w):mb<w.heap.size:=aA h.blk
theorem lG.mlt (h:lG B mb N nl D S w):∀ b,xS mb S b->b<w.heap.size:=λb hb=>by
 rcases hb with rfl|e|e|e
 . exact h.lt
 . exact dP h.rR b e
 . exact dP h.lR b e
 exact dP h.fR b e
theorem lG.below (h:lG B mb N nl D S w) (hb:Below w.heap.size w w'):lG B mb N nl D S w':=by
 have k:lV mb S S w w':=lV.of_below hb;exact⟨(hb.block _ h.lt).trans h.blk,aZ h.nrow hb,h.nfree,λd hd=>(h.nrg d hd).keep k,aZ h.rR hb,λp hp=>(h.rr p hp).keep k,aZ h.lR hb,aZ h.fR hb,λi v hv=>(h.fli i v hv).keep k,h.a1,h.a2,h.a3,h.low⟩
theorem lG.cells (h:lG B mb N nl D S w):w.cell? ⟨mb,0,none⟩=some nl/\w.cell? ⟨mb,1,none⟩=some S.vR/\w.cell? ⟨mb,2,none⟩=some S.vL/\w.cell? ⟨mb,3,none⟩=some S.vF/\w.cell? ⟨mb,4,none⟩=some (.bool D.on):=
 ⟨by rw[aB _ _ 0 _ _ _ h.blk];rfl,by rw[aB _ _ 1 _ _ _ h.blk];rfl,by rw[aB _ _ 2 _ _ _ h.blk];rfl,by rw[aB _ _ 3 _ _ _ h.blk];rfl,by rw[aB _ _ 4 _ _ _ h.blk];rfl⟩
theorem lG.setOn (h:lG B mb N nl D S w) (x:Bool):lG B mb N nl {D with on:=x} S (w.setCell ⟨mb,4,none⟩ (.bool x)):=by
 have k:lV mb S S w (w.setCell ⟨mb,4,none⟩ (.bool x)):=lV.set mb 4 _ (.inl rfl);have hk:∀ g,g≠mb->(w.setCell ⟨mb,4,none⟩ (.bool x)).heap[g]?=w.heap[g]?:=λg hg=>aG _ _ _ _ hg
 exact⟨by rw[aC w mb 4 _ _ _ _ h.blk];rfl,aU h.nrow λg hg=>hk g (λe=>h.nfree g hg (.inl e)),h.nfree,λd hd=>(h.nrg d hd).keep k,aU h.rR λg hg=>hk g (λe=>h.a1.1 (e▸hg)),λp hp=>(h.rr p hp).keep k,aU h.lR λg hg=>hk g (λe=>h.a1.2.1 (e▸hg)),aU h.fR λg hg=>hk g (λe=>h.a1.2.2 (e▸hg)),λi v hv=>(h.fli i v hv).keep k,h.a1,h.a2,h.a3,h.low⟩
theorem uQ {S T:MS} {o:Nat} (h:lG B mb N nl D S w) (ob:Obj) (hv:∀ g,v.ownBlock=some g->xS mb S g) (hg:(w.alloc ob).grownBy w2 v.ownBlock)
 (hT:∀ b,xS mb T b->xS mb S b\/v'.ownBlock=some b) (Hz:v'.ownBlock=v.ownBlock\/v'.ownBlock=some (w.alloc ob).heap.size):lV mb S T w (w2.setCell ⟨mb,o,none⟩ v'):=by
 have ye:(w.alloc ob).heap.size=w.heap.size+1:=by simp
 have Qc:w.heap.size+1<=w2.heap.size:=by rw[<-ye];exact hg.size
 refine⟨hg.os,hg.tape,hg.output,by simp[World.setCell];omega,λb hb hn=> ?_,λb hb=> ?_⟩
 . rw[aG _ _ _ _ (λe=>hn (.inl e)),hg.block b (by omega) (λe=>hn (hv b e.symm))]
   exact ((zBr _ w).alloc (zR _) ob).block b hb
 rcases hT b hb with e|e
 . exact .inl e
 rcases Hz with e2|e2
 . exact .inl (hv b (by rw[<-e2];exact e))
 rw[e] at e2;cases e2;exact .inr (by omega)
theorem dN {b:Nat} (hb:b<w.heap.size) (hg:(w.alloc ob).grownBy w2 v.ownBlock) (qo:v.ownBlock≠some b):w2.heap[b]?=w.heap[b]?:=by
 have ye:(w.alloc ob).heap.size=w.heap.size+1:=by simp
 rw[hg.block b (by omega) (λe=>qo e.symm)];exact ((zBr _ w).alloc (zR _) ob).block b hb
theorem lG.pushR (h:lG B mb N nl D S w) {r:Value} {l:Rng} (hr:sM mb S w r l)
 (Hb:w2.ownsRow 0 299 1 v' (D.rL.length+1) (D.rL.map (·.1)++[r])) (hg:(w.alloc ob).grownBy w2 S.vR.ownBlock) (Hz:v'.ownBlock=S.vR.ownBlock\/v'.ownBlock=some (w.alloc ob).heap.size):
 lG B mb N nl {D with rL:=D.rL++[(r,l)]} {S with vR:=v'} (w2.setCell ⟨mb,1,none⟩ v')/\lV mb S {S with vR:=v'} w (w2.setCell ⟨mb,1,none⟩ v'):=by
 have ye:(w.alloc ob).heap.size=w.heap.size+1:=by simp
 have hT:∀ b,xS mb {S with vR:=v'} b->xS mb S b\/v'.ownBlock=some b:=λb hb=>by
  rcases hb with e|e|e|e
  . exact .inl (.inl e)
  . exact .inr e
  . exact .inl (.inr (.inr (.inl e)))
  exact .inl (.inr (.inr (.inr e)))
 have k:lV mb S {S with vR:=v'} w (w2.setCell ⟨mb,1,none⟩ v'):=uQ h ob (λg hg=>.inr (.inl hg)) hg hT Hz;have hv:∀ g,v'.ownBlock=some g->S.vR.ownBlock=some g\/w.heap.size<=g:=λg qn=>by
  rcases Hz with e|e
  . exact .inl (by rw[<-e];exact qn)
  rw[qn] at e;cases e;exact .inr (by omega)
 have JW:v'.ownBlock≠some mb:=λe=>by
  rcases hv mb e with e|e
  . exact h.a1.1 e
  have:=h.lt;omega
 have qo:∀ g,g≠mb->(w2.setCell ⟨mb,1,none⟩ v').heap[g]?=w2.heap[g]?:=λg hg=>aG _ _ _ _ hg;have XW:∀ g,¬ xS mb S g->g<w.heap.size->¬ xS mb {S with vR:=v'} g:=λg h1 h2 h3=>by
  rcases k.new g h3 with e|e
  . exact h1 e
  omega
 refine⟨⟨?_,aU h.nrow λg hg=>k.keep g (dP h.nrow g hg) (h.nfree g hg),λg hg=>XW g (h.nfree g hg) (dP h.nrow g hg),λd hd=>(h.nrg d hd).keep k,?_,?_,?_,?_,λi v hv=>(h.fli i v hv).keep k,⟨JW,h.a1.2⟩,λg qn=> ?_,h.a3,h.low.1,λb hb=> ?_⟩,k⟩
 . rw[aC w2 mb 1 _ _ _ _ ((dN h.lt hg h.a1.1).trans h.blk)];rfl
 . have:=aU (w':=w2.setCell ⟨mb,1,none⟩ v') Hb λg hg=>qo g (λe=>JW (e▸hg))
   simpa using this
 . intro p hp
   rcases List.mem_append.1 hp with h1|h1
   . exact (h.rr p h1).keep k
   rw[zMs] at h1;subst h1;exact hr.keep k
 . refine aU h.lR λg Xr=> ?_
   rw[qo g (λe=>h.a1.2.1 (e▸Xr)),dN (dP h.lR g Xr) hg (λe=>(h.a2 g e).1 Xr)]
 . refine aU h.fR λg Xr=> ?_
   rw[qo g (λe=>h.a1.2.2 (e▸Xr)),dN (dP h.fR g Xr) hg (λe=>(h.a2 g e).2 Xr)]
 . rcases hv g qn with e|e
   . exact h.a2 g e
   exact⟨λe2=>by have:=dP h.lR g e2;omega,λe2=>by have:=dP h.fR g e2;omega⟩
 rcases k.new b hb with e|e
 . exact h.low.2 b e
 have h1:=h.lt
 have h2:=h.low.2 mb (.inl rfl);omega
theorem lG.pushL (h:lG B mb N nl D S w) {x:Int}
 (Hb:w2.ownsRow 0 3 1 v' (D.last.length+1) (dE D.last++[.int .i64 x])) (hg:(w.alloc ob).grownBy w2 S.vL.ownBlock) (Hz:v'.ownBlock=S.vL.ownBlock\/v'.ownBlock=some (w.alloc ob).heap.size):
 lG B mb N nl {D with last:=D.last++[x]} {S with vL:=v'} (w2.setCell ⟨mb,2,none⟩ v')/\lV mb S {S with vL:=v'} w (w2.setCell ⟨mb,2,none⟩ v'):=by
 have ye:(w.alloc ob).heap.size=w.heap.size+1:=by simp
 have hT:∀ b,xS mb {S with vL:=v'} b->xS mb S b\/v'.ownBlock=some b:=λb hb=>by
  rcases hb with e|e|e|e
  . exact .inl (.inl e)
  . exact .inl (.inr (.inl e))
  . exact .inr e
  exact .inl (.inr (.inr (.inr e)))
 have k:lV mb S {S with vL:=v'} w (w2.setCell ⟨mb,2,none⟩ v'):=uQ h ob (λg hg=>.inr (.inr (.inl hg))) hg hT Hz;have hv:∀ g,v'.ownBlock=some g->S.vL.ownBlock=some g\/w.heap.size<=g:=λg qn=>by
  rcases Hz with e|e
  . exact .inl (by rw[<-e];exact qn)
  rw[qn] at e;cases e;exact .inr (by omega)
 have JW:v'.ownBlock≠some mb:=λe=>by
  rcases hv mb e with e|e
  . exact h.a1.2.1 e
  have:=h.lt;omega
 have qo:∀ g,g≠mb->(w2.setCell ⟨mb,2,none⟩ v').heap[g]?=w2.heap[g]?:=λg hg=>aG _ _ _ _ hg;have XW:∀ g,¬ xS mb S g->g<w.heap.size->¬ xS mb {S with vL:=v'} g:=λg h1 h2 h3=>by
  rcases k.new g h3 with e|e
  . exact h1 e
  omega
 refine⟨⟨?_,aU h.nrow λg hg=>k.keep g (dP h.nrow g hg) (h.nfree g hg),λg hg=>XW g (h.nfree g hg) (dP h.nrow g hg),λd hd=>(h.nrg d hd).keep k,?_,λp hp=>(h.rr p hp).keep k,?_,?_,λi v hv=>(h.fli i v hv).keep k,⟨h.a1.1,JW,h.a1.2.2⟩,λg qn=> ?_,λg qn=> ?_,h.low.1,λb hb=> ?_⟩,k⟩
 . rw[aC w2 mb 2 _ _ _ _ ((dN h.lt hg h.a1.2.1).trans h.blk)];rfl
 . refine aU h.rR λg Xr=> ?_
   rw[qo g (λe=>h.a1.1 (e▸Xr)),dN (dP h.rR g Xr) hg (h.a2 g Xr).1]
 . have:=aU (w':=w2.setCell ⟨mb,2,none⟩ v') Hb λg hg=>qo g (λe=>JW (e▸hg))
   unfold cW dE;simpa[dE] using this
 . refine aU h.fR λg Xr=> ?_
   rw[qo g (λe=>h.a1.2.2 (e▸Xr)),dN (dP h.fR g Xr) hg (λe=>h.a3 g e Xr)]
 . refine⟨λe=> ?_,(h.a2 g qn).2⟩
   rcases hv g e with e|e
   . exact (h.a2 g qn).1 e
   have:=dP h.rR g qn;omega
 . rcases hv g qn with e|e
   . exact h.a3 g e
   exact λe2=>by have:=dP h.fR g e2;omega
 rcases k.new b hb with e|e
 . exact h.low.2 b e
 have h1:=h.lt
 have h2:=h.low.2 mb (.inl rfl);omega
theorem lG.pushF (h:lG B mb N nl D S w) 
 (Hb:w2.ownsRow 0 39 1 v' (D.fL.length+1) (S.fv++[.slice none 0 0])) (hg:(w.alloc ob).grownBy w2 S.vF.ownBlock) (Hz:v'.ownBlock=S.vF.ownBlock\/v'.ownBlock=some (w.alloc ob).heap.size):
 lG B mb N nl {D with fL:=D.fL++[[]]} {S with vF:=v',fv:=S.fv++[.slice none 0 0]} (w2.setCell ⟨mb,3,none⟩ v')/\lV mb S {S with vF:=v',fv:=S.fv++[.slice none 0 0]} w (w2.setCell ⟨mb,3,none⟩ v'):=by
 have ye:(w.alloc ob).heap.size=w.heap.size+1:=by simp
 have hT:∀ b,xS mb {S with vF:=v',fv:=S.fv++[.slice none 0 0]} b->xS mb S b\/v'.ownBlock=some b:=λb hb=>by
  rcases hb with e|e|e|e
  . exact .inl (.inl e)
  . exact .inl (.inr (.inl e))
  . exact .inl (.inr (.inr (.inl e)))
  exact .inr e
 have k:lV mb S {S with vF:=v',fv:=S.fv++[.slice none 0 0]} w (w2.setCell ⟨mb,3,none⟩ v'):=uQ h ob (λg hg=>.inr (.inr (.inr hg))) hg hT Hz;have hv:∀ g,v'.ownBlock=some g->S.vF.ownBlock=some g\/w.heap.size<=g:=λg qn=>by
  rcases Hz with e|e
  . exact .inl (by rw[<-e];exact qn)
  rw[qn] at e;cases e;exact .inr (by omega)
 have JW:v'.ownBlock≠some mb:=λe=>by
  rcases hv mb e with e|e
  . exact h.a1.2.2 e
  have:=h.lt;omega
 have qo:∀ g,g≠mb->(w2.setCell ⟨mb,3,none⟩ v').heap[g]?=w2.heap[g]?:=λg hg=>aG _ _ _ _ hg;have XW:∀ g,¬ xS mb S g->g<w.heap.size->¬ xS mb {S with vF:=v',fv:=S.fv++[.slice none 0 0]} g:=λg h1 h2 h3=>by
  rcases k.new g h3 with e|e
  . exact h1 e
  omega
 have Q3:S.fv.length=D.fL.length:=by have:=h.fR.1;omega
 refine⟨⟨?_,aU h.nrow λg hg=>k.keep g (dP h.nrow g hg) (h.nfree g hg),λg hg=>XW g (h.nfree g hg) (dP h.nrow g hg),λd hd=>(h.nrg d hd).keep k,?_,λp hp=>(h.rr p hp).keep k,?_,?_,λi v hv=> ?_,⟨h.a1.1,h.a1.2.1,JW⟩,λg qn=> ?_,λg qn e=> ?_,h.low.1,λb hb=> ?_⟩,k⟩
 . rw[aC w2 mb 3 _ _ _ _ ((dN h.lt hg h.a1.2.2).trans h.blk)];rfl
 . refine aU h.rR λg Xr=> ?_
   rw[qo g (λe=>h.a1.1 (e▸Xr)),dN (dP h.rR g Xr) hg (h.a2 g Xr).2]
 . refine aU h.lR λg Xr=> ?_
   rw[qo g (λe=>h.a1.2.1 (e▸Xr)),dN (dP h.lR g Xr) hg (h.a3 g Xr)]
 . have:=aU (w':=w2.setCell ⟨mb,3,none⟩ v') Hb λg hg=>qo g (λe=>JW (e▸hg))
   simpa using this
 . rcases zLg i S.fv.length with hi|hi
   . have i8:S.fv[i]?=some v:=by rw[<-hv];exact (zGl hi).symm
     have e:(D.fL++[[]]).getD i []=D.fL.getD i []:=by
      rw[zLf,zGl (by omega),<-zLf]
     show gJ _ _ _ v ((D.fL++[[]]).getD i []);rw[e];exact (h.fli i v i8).keep k
   have i8:(S.fv++[Value.slice none 0 0])[i]?=some v:=hv
   have yn:i=S.fv.length:=by
    have:=(List.getElem?_eq_some_iff.1 i8).1;simp at this;omega
   subst yn;simp at i8;subst i8;have e:(D.fL++[[]]).getD S.fv.length []=[]:=by
    rw[Q3,zLf];simp
   show gJ _ _ _ _ ((D.fL++[[]]).getD S.fv.length []);rw[e];exact⟨cW.nil _,λg hg=>by cases hg⟩
 . refine⟨(h.a2 g qn).1,λe=> ?_⟩
   rcases hv g e with e|e
   . exact (h.a2 g qn).2 e
   have:=dP h.rR g qn;omega
 . rcases hv g e with e|e
   . exact h.a3 g qn e
   have:=dP h.lR g qn;omega
 rcases k.new b hb with e|e
 . exact h.low.2 b e
 have h1:=h.lt
 have h2:=h.low.2 mb (.inl rfl);omega
theorem lG.setF (h:lG B mb N nl D S w) {gF:Nat} {cap:Nat} (vq:S.vF=.slice (some ⟨gF,0,none⟩) D.fL.length cap) (hi:i<D.fL.length) (hl:gJ mb S w v l) (h1:v.oneCell'=true):
 lG B mb N nl {D with fL:=D.fL.set i l} {S with fv:=S.fv.set i v} (w.setCell ⟨gF,i,none⟩ v)/\lV mb S {S with fv:=S.fv.set i v} w (w.setCell ⟨gF,i,none⟩ v):=by
 have SA:xS mb S gF:=.inr (.inr (.inr (by rw[vq];rfl)));have XU:lV mb S S w (w.setCell ⟨gF,i,none⟩ v):=lV.set gF i v SA;have k:lV mb S {S with fv:=S.fv.set i v} w (w.setCell ⟨gF,i,none⟩ v):=⟨XU.os,XU.tape,XU.output,XU.size,XU.keep,λb hb=>.inl hb⟩;have qo:∀ g,g≠gF->(w.setCell ⟨gF,i,none⟩ v).heap[g]?=w.heap[g]?:=λg hg=>aG _ _ _ _ hg;have hF:S.vF.ownBlock=some gF:=by rw[vq];rfl
 have Q3:S.fv.length=D.fL.length:=by have:=h.fR.1;omega
 refine⟨⟨(qo mb (λe=>h.a1.2.2 (e▸hF))).trans h.blk,aU h.nrow λg hg=>qo g (λe=>h.nfree g hg (e▸SA)),h.nfree,λd hd=>(h.nrg d hd).keep k,aU h.rR λg hg=>qo g (λe=>(h.a2 g hg).2 (e▸hF)),λp hp=>(h.rr p hp).keep k,aU h.lR λg hg=>qo g (λe=>h.a3 g hg (e▸hF)),?_,λj u hu=> ?_,h.a1,h.a2,h.a3,h.low⟩,k⟩
 . have hr:=h.fR
   rw[vq] at hr;obtain⟨r1,r2|⟨g',Y7,KO,hv,hb,hg,cd,QY,YL,xu⟩⟩:=hr
   . cases r2.1
   cases hv
   show (w.setCell ⟨gF,i,none⟩ v).ownsRow 0 _ 1 S.vF (D.fL.set i l).length (S.fv.set i v);rw[vq,List.length_set];refine⟨by rw[List.length_set];exact r1,.inr ⟨gF,cap,_,rfl,hb,aC w gF i v _ _ _ hg,cd,QY,by simpa using YL,?_⟩⟩;rw[Array.toList_setIfInBounds,List.take_set,xu]
 have uf:(S.fv.set i v)[j]?=some u:=hu
 show gJ _ _ _ u ((D.fL.set i l).getD j []);by_cases Qr:i=j
 . subst Qr
   rw[List.getElem?_set_self (by omega)] at uf;cases uf;have e:(D.fL.set i l).getD i []=l:=by rw[zLf,List.getElem?_set_self hi];rfl
   rw[e];exact hl.keep k
 rw[List.getElem?_set_ne Qr] at uf
 have e:(D.fL.set i l).getD j []=D.fL.getD j []:=by rw[zLf,List.getElem?_set_ne Qr,<-zLf]
 rw[e];exact (h.fli j u uf).keep k
end
theorem zar (h:i<l.length):(eX l).getD i 0=((l.getD i 0:Nat):Int):=by
 unfold eX;rw[zLf,List.getElem?_map,zLf,zLe h];rfl
theorem cZ {n:Nat} (h:l.Nodup) (hl:∀ x∈l,x<n):l.length<=n:=zdb n l h hl
theorem zbA {l:List (List Nat)} {f:List Nat->List Nat} (h:i<l.length):l.modify i f=l.set i (f (l.getD i [])):=by
 apply List.ext_getElem?;intro j;rw[List.getElem?_modify,List.getElem?_set];by_cases Qr:i=j
 . subst Qr
   rw[zP rfl,zP h,zLe h,zLf,zLe h];simp
 rw[zN Qr]
 simp[Qr]
theorem zdY (a b:List Nat) (x:Nat) (F:List (List Nat)):eA (a++[x]) b F=(eA a b F).modify x (cY · b):=by
 unfold eA;rw[List.foldl_append];rfl
theorem oX (h:i<l.length):l.take (i+1)=l.take i++[l.getD i 0]:=by
 rw[List.take_add_one,zLf,zLe h];rfl
theorem uF (h:i<l.length):l.getD i 0∈l:=by
 rw[zLf,zLe h];exact List.getElem_mem h
def LinkO (B mb:Nat) (N:List Nd) (nl:Value) (D:MD) (S:MS) (F:List (List Nat)) (w w':World):Prop:=∃ fv,lG B mb N nl {D with fL:=F} {S with fv:=fv} w'/\lV mb S {S with fv:=fv} w w'
theorem zaQ (B mb:Nat) (N:List Nd) (nl:Value) (D:MD) (S:MS) (w:World) (h:lG B mb N nl D S w) (va vb:Value) (a b:List Nat) (ha:gJ mb S w va a) (hb:gJ mb S w vb b)
 (hax:∀ x∈a,x<D.fL.length) (XR:∀ x∈b,x<D.fL.length) (hF:zcx D.fL) (Qt:D.fL.length<=65) (P0:a.length<=65) (Hz:b.length<=65):
 Calls Tryz.prog 152 #[bJ mb,va,vb] w λe w'=>e=.returned (.tuple #[])/\LinkO B mb N nl D S (eA a b D.fL) w w':=by
 obtain⟨aoa,ca,rfl⟩:=ha.1.form;obtain⟨aob,cb,rfl⟩:=hb.1.form;rw[bO] at ha hb ⊢;rw[bO];have H:=zh h;have HA:=zh ha;have HB:=zh hb;have HX:=zh (zAi hax (zAi XR (zAi hF (zAi Qt (zAi P0 Hz)))));clear h ha hb hax XR hF Qt P0 Hz;unfold bJ;go_enter Tryz.func152,Tryz.ntmps152;go_wp2_with (fail)
 go_loopw [6] (λs6 wr=>∃ (i:Nat) (F:List (List Nat)) (fv:List Value),s6=.int .i64 i/\i<=a.length/\F=eA (a.take i) b D.fL/\lG B mb N nl {D with fL:=F} {S with fv:=fv} wr/\lV mb S {S with fv:=fv} w wr) (λs6 _=>a.length-(RowKit.intOf s6).toNat)
 case atStart=>exact⟨0,D.fL,S.fv,rfl,by omega,rfl,H.o,lV.refl _ _ _⟩
 case round=>
  obtain⟨i,F,fv,rfl,hi,BP,hm,hk⟩:=hrel;by_cases Hf:i<a.length
  . have Kw:=HX.o
    have RW:F.length=D.fL.length:=by rw[BP,kV]
    have My:zcx F:=by rw[BP];exact vI _ _ Kw.2.2.1 Kw.2.1
    have Yh:=Kw.1 _ (uF Hf);have Xa:=(HA.o.keep hk).1;obtain⟨ga,AU,lga,cga⟩:∃ g,aoa=some ⟨g,0,none⟩/\g<wr.heap.size/\wr.cell? ⟨g,i,none⟩=some (.int .i64 (a.getD i 0:Nat)):=by
     unfold cW at Xa;rw[bO] at Xa
     rcases bD Xa with⟨_,h0⟩|⟨g,cap,e,_,hg⟩
     . omega
     cases e
     refine⟨g,rfl,hg,?_⟩;have:=aE Xa i _ (fG (by rw[bO];exact Hf));rw[zar Hf] at this;exact this
    subst AU;have QM:zH (eA (a.take (i+1)) b D.fL=F.set (a.getD i 0) (cY (F.getD (a.getD i 0) []) b)):=zh (by
     rw[oX Hf,zdY,<-BP,zbA (by rw[RW];exact Yh)])
    generalize a.getD i 0=x at Yh cga QM;obtain⟨gF,capF,vq,lgF⟩:∃ g c,S.vF=.slice (some ⟨g,0,none⟩) F.length c/\g<wr.heap.size:=by
     rcases bD hm.fR with⟨_,h0⟩|⟨g,cap,e,_,hg⟩
     . have h0:F.length=0:=h0
       omega
     exact⟨g,cap,e,hg⟩
    have Gi:fv.length=F.length:=by have:=hm.fR.1;have h2:fv.length=F.length*1:=this;omega
    obtain⟨u,hu⟩:=zG fv x (by omega);have Jk:=hm.fli x u hu;obtain⟨aou,cu,rfl⟩:=Jk.1.form;have YN:=hm.fR;have YN:wr.ownsRow 0 39 1 S.vF F.length fv:=YN;rw[vq] at YN;have JR:=aE YN x _ hu;obtain⟨_,_,_,cm3,_⟩:=hm.cells;have cm3:wr.cell? ⟨mb,3,none⟩=some S.vF:=cm3;rw[vq] at cm3;have Yl:=hm.lt;have Cg:(F.getD x []).length<=65:=by
     have Xu:F.getD x []∈F:=by
      rw[zLf,zLe (by omega)];exact List.getElem_mem _
     have:=cZ (My.nd _ Xu) (My.lt _ Xu);omega
    have HK:=zh (jO _ _ _ _ wr.drew (Jk.1.below (zBr _ wr).drew) ((HB.o.keep hk).1.below (zBr _ wr).drew) (by rw[bO];exact zT Cg (by decide)) (by rw[bO];have:=Kw.2.2.2.2.2;omega));rw[<-jX,bO,bO] at HK;have zl:(i:Int)<(a.length:Int):=by omega
    have zx:(x:Int)<(F.length:Int):=by omega
    have Xe:=zW i (by omega);rw[bO] at JR;have HM:=zh (zAi hm (zAi hk YN));have HV:=zh vq;have WN:zH (x<F.length/\fv.length=F.length):=zh ⟨by omega,Gi⟩;clear hm hk YN BP My vq hu Jk Kw Xa RW Cg Gi Yh;generalize cY (F.getD x []) b=J at HK QM;generalize (F.getD x []).length=nu at HK JR;go_upto_region 3 with (fail)
    refine wp_region_noPanic ?_;refine cK (λw'=>w'.cell? ⟨mb,3,none⟩=some (.slice (some ⟨gF,0,none⟩) F.length capF)/\w'.cell? ⟨ga,i,none⟩=some (.int .i64 (x:Nat))/\w'.cell? ⟨gF,x,none⟩=some (.slice aou nu cu)) 23 (by kernel_rfl) ⟨cm3,cga,JR⟩ (λHe=> ?_);refine aH 0 He ?_;refine aH 1 He ?_;refine aH 2 He ?_;refine aH 3 He ?_;refine aH 4 He ?_;refine aH 5 He ?_;refine aH 6 He ?_;refine aH 7 He ?_;refine aH 8 He ?_;refine aH 9 He ?_;refine aH 10 He ?_;refine aH 11 He ?_;refine aH 12 He ?_;refine aH 13 He ?_;refine aH 14 He ?_;refine aH 15 He ?_;refine aH 16 He ?_;refine aH 17 He ?_;refine aH 18 He ?_;refine aH 19 He ?_;refine aH 20 He ?_;refine dA 21 (λK hK=> ?_);go_simp;go_at_call 128;refine HK.o.mono ?_;rintro e w2 ⟨JP,c2,rfl,UN⟩;have xo:pJ wr.heap.size (.slice JP J.length c2) (eX J) wr w2:=⟨UN.1,UN.2.1,(zBr wr.heap.size wr).drew.trans UN.2.2⟩;clear UN;have Q6:=(zAi ((aL xo.2.2 ⟨mb,3,none⟩ Yl).trans cm3) (zAi ((aL xo.2.2 ⟨ga,i,none⟩ lga).trans cga) ((aL xo.2.2 ⟨gF,x,none⟩ lgF).trans JR)));refine hK.out _ _ (λ_=>Q6) ?_;clear hK K He
    (try simp only[Act.put,lA,lB,lC]);refine aH 22 Q6 ?_;clear Q6;have QR:zH (lG B mb N nl {D with fL:=F} {S with fv:=fv} w2/\lV mb S {S with fv:=fv} w w2):=zh ⟨HM.o.1.below xo.2.2,HM.o.2.1.trans (lV.of_below xo.2.2)⟩;obtain⟨bt,UD⟩:∃ cs,w2.heap[gF]?=some (.cells cs 39 (0,0)):=by
     have hr:=QR.o.1.fR;have hr:w2.ownsRow 0 39 1 S.vF F.length fv:=hr;rw[HV.o] at hr;obtain⟨_,h2|⟨g',Y7,KO,hv,_,hg,_⟩⟩:=hr
     . cases h2.1
     cases hv;exact⟨KO,hg⟩
    have fgF:=aM w2 gF x _ _ UD;have cgF2:w2.cell? ⟨gF,x,none⟩=some (.slice aou nu cu):=(aL xo.2.2 ⟨gF,x,none⟩ lgF).trans JR;have yb:=zh xo;clear xo UD;refine dA 23 (λK hK=> ?_);go_simp;refine hK.out _ _ (λh=>absurd rfl h) ?_;clear hK K;(try simp only[Act.put,lA,lB,lC]);refine fK (by kernel_rfl) ?_;refine NoPanic.normal ?_;have ND:gJ mb {S with fv:=fv} w2 (.slice JP J.length c2) J:=⟨yb.o.1,λg hg hm=>by
     have h1:=yb.o.2.1 g hg;have h2:=HM.o.1.mlt g hm;omega⟩
    have qb:=QR.o.1.setF (gF:=gF) (cap:=capF) (i:=x) HV.o WN.o.1 ND rfl;have HS:=zh (zAi qb.1 (QR.o.2.trans qb.2));clear qb ND cgF2 fgF cm3 cga JR;generalize w2.setCell ⟨gF,x,none⟩ (.slice JP J.length c2)=w3 at HS ⊢;go_wp2_with (fail);go_roundw
    case rel=>exact⟨i+1,_,_,by go_num,by omega,QM.o.symm,HS.o.1,HS.o.2⟩
    case measure=>(simp[zI]<;>omega)
  have zl:¬ (i:Int)<(a.length:Int):=by omega
  have HR:zH (LinkO B mb N nl D S (eA a b D.fL) w wr):=zh ⟨fv,by
   rw[List.take_of_length_le (by omega)] at BP;rw[<-BP];exact hm,hk⟩
  clear BP hm hk;go_wp2_with (fail);go_end0;exact⟨rfl,HR.o⟩
