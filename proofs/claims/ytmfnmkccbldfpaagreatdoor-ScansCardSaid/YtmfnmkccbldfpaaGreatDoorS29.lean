/- Part of a proof. No condition. -/
import Derived.Test.YtmfnmkccbldfpaaGreatDoorS28
import Derived.Test.YtmfnmkccbldfpaaGreatDoorS25
set_option linter.unusedVariables false
set_option linter.unusedSimpArgs false
set_option maxRecDepth 100000
set_option maxHeartbeats 4000000
namespace Go.Proofs.YtmfnmkccbldfpaaGreatDoor
open Go.RowKit Go.Lib Tryz
theorem zzDj {p:Prop} (h:p:=by
 rcases aY h.row with⟨e,e'⟩|⟨g,cap,e,_⟩
 all_goals grind):p:=h
theorem zzDg {p:Prop} (h:p:=by
 rcases aY HP.o.row with⟨_,e⟩|⟨g,cap,e,_⟩
 all_goals grind):p:=h
theorem zzCl {p:Prop} (h:p:=by
 exact⟨rfl,by rw[HY.o];exact h.below (aK (zBr _ w) _),PK.of_below (aK (zBr _ w) _)⟩):p:=h
theorem zzCd {p:Prop} (h:p:=by
 rw[K7,p8.o];exact aB w1 w.heap.size 4 _ _ _ _ HA.o.1):p:=h
theorem zzCV {p:Prop} (h:p:=by
 rcases aY h with⟨e,_⟩|⟨g',cap,e,_,hl⟩
 . rw[e] at hg;cases hg
 rw[e] at hg;cases hg;exact hl):p:=h
variable {pb:Nat} {v:Value} {w:ω}
structure Nd where
 k:Nat
 r:Value
 rl:θ
 a:Nat
 b:Nat
 n:Nat
def iW (l:List Nd):ζ:=l.flatMap λd=>[ι d.k,d.r,ι d.a,ι d.b,ι d.n]
def fW (l:θ):ζ:=l.flatMap λr=>[ι r.1,ι r.2]
structure Pr where
 aQ:Nat
 e:Nat
 wh:Nat
 ns:List Nd
def bH (b:Nat):Value:=π b
structure gD (B pb:Nat) (s:η) (x:Pr) (lv:Value) (w:ω):Prop where
 blk:w.h pb #[γ s,ι x.aQ,ι x.e,ι x.wh,lv] 105
 row:w.r 192 5 lv (I x.ns) (iW x.ns)
 low:0<B/\B<=pb/\∀ g,β lv=some g->B<=g/\g≠pb
 sz:s.size<=60/\x.aQ<=s.size/\x.wh<=60/\x.e<=14
 rg:∀ d∈x.ns,w.r 196 2 d.r (I d.rl) (fW d.rl)/\∀ g,β d.r=some g->B<=g/\g≠pb/\β lv≠some g
 nb:∀ d∈x.ns,d.n<=100
structure PK (pb:Nat) (v v':Value) (w w':ω):Prop where
 os:w'.os=w.os
 tape:w'.tape=w.tape
 output:w'.output=w.output
 size:w.heap.size<=w'.heap.size
 keep:∀ b,b<w.heap.size->b≠pb->β v≠some b->w'.e w b
 new:∀ g,β v'=some g->β v=some g\/w.t<=g
theorem PK.refl (pb:Nat) (v:Value) (w:ω):PK pb v v w w:=⟨rfl,rfl,rfl,bR,λ_ _ _ _=>rfl,λ_ h=>.inl h⟩
theorem PK.trans {b1 b2 b3:Value} {u v:ω} (h:PK pb b1 b2 u v) (k:PK pb b2 b3 v w):PK pb b1 b3 u w:=
 ⟨k.os.trans h.os,k.tape.trans h.tape,k.output.trans h.output,zT h.size k.size,
  λb hb h1 h3=>(k.keep b (zLd hb h.size) h1 (λe=>by rcases h.new b e with e|e;exact h3 e;omega)).trans (h.keep b hb h1 h3),
  λg hg=>by
   rcases k.new g hg with e|e
   . exact h.new g e
   exact .inr (zT h.size e)⟩
theorem PK.of_below {u:ω} (h:u.u w):PK pb v v u w:=⟨h.os,h.tape,h.output,h.size,λb hb _ _=>h.block b hb,λ_ h=>.inl h⟩
theorem PK.below {B:Nat} {v':Value} {w':ω} (h:PK pb v v' w w') (hB:B<=w.t) (hp:B<=pb) (hv:∀ g,β v=some g->B<=g):Below B w w':=
 ⟨h.os,h.tape,h.output,h.size,λb hb=>h.keep b zo zo (λe=>zg)⟩
theorem PK.set (o:Nat) (u:Value):PK pb v v w (ς w (pb.p o) u):=
 ⟨rfl,rfl,rfl,zs,λb _ h _=>aD _ _ _ _ h,λ_ h=>.inl h⟩
section
variable {B pb:Nat} {s:η} {x:Pr} {lv:Value} {w w':ω}
theorem gD.lt (h:gD B pb s x lv w):pb<w.t:=aA h.blk
theorem gD.rlt (h:gD B pb s x lv w):∀ g,β lv=some g->g<w.t:=λg hg=>by
 rcases aY h.row with⟨e,_⟩|⟨g',cap,e,_,hl⟩
 . rw[e] at hg;cases hg
 rw[e] at hg;cases hg;exact hl
theorem zbL {l:θ} (h:w.r 196 2 v (I l) (fW l)):∀ g,β v=some g->g<w.t:=λg hg=>by
 exact zzCV
theorem gD.below (h:gD B pb s x lv w) (hb:w.u w'):gD B pb s x lv w':=
 ⟨(hb.block pb h.lt).trans h.blk,aU h.row λg hg=>hb.block g (h.rlt g hg),h.low,h.sz,λd hd=>⟨aU (h.rg d hd).1 λg hg=>hb.block g (zbL (h.rg d hd).1 g hg),(h.rg d hd).2⟩,h.nb⟩
theorem gD.set (h:gD B pb s x lv w) (o:Nat) (u:Value) (y:Pr) (hc:(#[γ s,ι x.aQ,ι x.e,ι x.wh,lv]:Array Value).setIfInBounds o u=#[γ s,ι y.aQ,ι y.e,ι y.wh,lv]) (hn:y.ns=x.ns) (hz:y.aQ<=s.size/\y.wh<=60/\y.e<=14):
 gD B pb s y lv (ς w (pb.p o) u):=by
 have hk:∀ g,g≠pb->(ς w (pb.p o) u).e w g:=λg hg=>aD _ _ _ _ hg;refine⟨by rw[aB w pb o u _ _ _ h.blk,hc],?_,h.low,⟨h.sz.1,hz.1,hz.2.1,hz.2.2⟩,?_,by rw[hn];exact h.nb⟩
 . rw[hn]
   exact aU h.row λg hg=>hk g (h.low.2.2 g hg).2
 rw[hn]
 exact λd hd=>⟨aU (h.rg d hd).1 λg hg=>hk g ((h.rg d hd).2 g hg).2.1,(h.rg d hd).2⟩
theorem gD.cells (h:gD B pb s x lv w):w.v pb 0 (γ s)/\w.i pb 1 x.aQ/\w.i pb 2 x.e/\w.i pb 3 x.wh/\w.v pb 4 lv:=
 ⟨by rw[zQ 0 h.blk];rfl,by rw[zQ 1 h.blk];rfl,by rw[zQ 2 h.blk];rfl,by rw[zQ 3 h.blk];rfl,by rw[zQ 4 h.blk];rfl⟩
end
def fK (x:Pr) (e wh:Nat):Pr:=if x.e=0 then {x with e:=e,wh:=wh} else x
def PrO (B pb:Nat) (s:η) (y:Pr) (lv:Value) (w w':ω):Prop:=gD B pb s y lv w'/\PK pb lv lv w w'
theorem iQ (B pb:Nat) (s:η) (x:Pr) (lv:Value) (w:ω) (h:gD B pb s x lv w) (e wh:Nat) (he:e<=14) (hw:wh<=60):
 Γ 32 #[bH pb,ι e,ι wh] w λe' w'=>e'=ρ (ϕ #[])/\PrO B pb s (fK x e wh) lv w w':=by
 obtain⟨c0,c1,c2,c3,c4⟩:=h.cells;have:=bN w pb 2 _ _ h.blk;by_cases h0:x.e=0
 . rw[h0] at c2
   have hy:fK x e wh={x with e:=e,wh:=wh}:=by unfold fK;rw[zP h0]
   have h1:=h.set 2 (ι e) {x with e:=e} zs rfl ⟨h.sz.2.1,h.sz.2.2.1,he⟩;have h2:=h1.set 3 (ι wh) {x with e:=e,wh:=wh} zs rfl ⟨h.sz.2.1,hw,he⟩;have:=bN _ pb 3 _ _ h1.blk;have hk:=(PK.set (pb:=pb) (v:=lv) 2 (w:=w) (ι e)).trans (PK.set (pb:=pb) (v:=lv) 3 (ι wh));clear h1 h0;unfold bH;go_in;go_wp2;go_end0;exact⟨rfl,by rw[hy];exact h2,hk⟩
 have:((x.e:Int)==0)=false:=zx
 have hy:fK x e wh=x:=by unfold fK;rw[zN h0]
 clear h0;unfold bH;go_in;go_wp2;go_end0;exact⟨rfl,by rw[hy];exact h,PK.refl _ _ _⟩
theorem zbY (s:η) (p:Nat) (hp:p<=s.size):bT (ε s p s.size) 0=bT s p:=by
 have:(ε s p s.size).size=s.size-p:=zs
 grind [bT,nM]
theorem nC (s:η) (p:Nat) (hp:p<=s.size):p+(bT s p).2<=s.size/\ -1<=(bT s p).1/\(bT s p).1<=1114111/\(bT s p).2<=4:=by
 grind [bT,iL]
def eI (s:η) (x:Pr):Pr:=if (bT s x.aQ).1<0/\0<(bT s x.aQ).2 then fK x 2 x.aQ else x
theorem iR (B pb:Nat) (s:η) (x:Pr) (lv:Value) (w:ω) (h:gD B pb s x lv w):
 Γ 73 #[bH pb] w λe' w'=>e'=ρ (ϕ #[ι (bT s x.aQ).1,ι ((bT s x.aQ).2:Nat)])/\PrO B pb s (eI s x) lv w w':=by
 obtain⟨c0,c1,c2,c3,c4⟩:=h.cells;have:=h.sz;have ho:=λw'=>zcD (ε s x.aQ s.size) w';rw[zbY s x.aQ h.sz.2.1] at ho;have qo:=nC s x.aQ h.sz.2.1;have Qx:zH (eI s x=if (bT s x.aQ).1<0/\0<(bT s x.aQ).2 then fK x 2 x.aQ else x):=zh rfl;generalize eI s x=y at Qx ⊢;generalize Vo:bT s x.aQ=cn at ho qo Qx ⊢;obtain⟨c,n⟩:=cn;dsimp only at ho qo Qx ⊢;clear Vo;have:=zu x.aQ s.size
 unfold bH;by_cases hc:c<0
 . by_cases hn:0<n
   . have V9:=zp n
     have Yi:=λk=>iQ B pb s x lv (w.drewN k) (h.below (aK (zBr _ w) k)) 2 x.aQ zo zo;have HY:zH (y=fK x 2 x.aQ):=zh (by rw[Qx.o,zP ⟨hc,hn⟩]);go_in;go_wp2;go_quiet ((go_at_call 50;exact Calls.quiet_of_same (ho _)));go_wp2_with (first|(go_at_call 32;refine (Yi _).mono ?_;rintro e' w' ⟨rfl,ho⟩));refine bodyPost_ret (v:=ϕ #[ι c,ι n]) zzAX rfl ?_
     exact⟨rfl,by rw[HY.o];exact ho.1,(PK.of_below (aK (zBr _ w) _)).trans ho.2⟩
   have V9:¬ (0:Int)<(n:Int):=zo
   have HY:zH (y=x):=zh (by rw[Qx.o,zN (λh=>hn h.2)]);go_in;go_wp2;go_quiet ((go_at_call 50;exact Calls.quiet_of_same (ho _)));go_wp2;refine bodyPost_ret (v:=ϕ #[ι c,ι n]) zzAX rfl ?_;exact zzCl
 have HY:zH (y=x):=zh (by rw[Qx.o,zN (λh=>hc h.1)])
 clear Qx;go_in;go_wp2;go_quiet ((go_at_call 50;exact Calls.quiet_of_same (ho _)));go_wp2;refine bodyPost_ret (v:=ϕ #[ι c,ι n]) zzAX rfl ?_;exact zzCl
theorem elemNode:eO prog 103 192 5 56:=eO.of (z:=.agg #[ι 0,ν,ι 0,ι 0,ι 0]) underlying103 zK rfl zd
theorem uC (l:List Nd) (i:Nat) (d:Nd) (h:l[i]?=some d):(iW l)[i*5+4]?=some (ι d.n):=by
 induction l generalizing i with
 | nil=>simp at h
 | cons a l ih=>
  grind [iW]
def ndN (ns:List Nd) (i:Nat):Nat:=(ns[i]?.map (·.n)).getD 0
def nOf (ns:List Nd) (k a b:Nat):Nat:=if k=0 then 0 else if k=1 then 1 else if k<=3 then ndN ns a+ndN ns b else ndN ns a
def nS (ns:List Nd) (k:Nat) (r:Value) (rl:θ) (a b:Nat):Nd:=⟨k,r,rl,a,b,min 100 (nOf ns k a b)⟩
theorem ndN_le {ns:List Nd} (h:∀ d∈ns,d.n<=100) (i:Nat):ndN ns i<=100:=by
 grind [ndN]
theorem gD.app {B:Nat} {s:η} {x:Pr} {lv:Value} (h:gD B pb s x lv w) {d:Nd} {w3 w4:ω} {v4:Value} (hb:w.u w3) (Hb:w4.r 192 5 v4 (I x.ns+1) (iW x.ns++[ι d.k,d.r,ι d.a,ι d.b,ι d.n]))
 (hg:w3.grownBy w4 (β lv)) (qh:β v4=β lv\/β v4=some w3.heap.size) (hr:w.r 196 2 d.r (I d.rl) (fW d.rl)/\∀ g,β d.r=some g->B<=g/\g≠pb/\β lv≠some g) (hn:d.n<=100):
 gD B pb s {x with ns:=x.ns++[d]} v4 (ς w4 (pb.p 4) v4)/\PK pb lv v4 w (ς w4 (pb.p 4) v4):=by
 have lpb:=h.lt;have hs:=hb.size;have hl:=h.low;have k3:∀ g,g<w.heap.size->β lv≠some g->w4.e w g:=λg h1 h2=>(hg.block g zo (λe=>h2 e.symm)).trans (hb.block g h1);have ky:β lv≠some pb:=λe=>(hl.2.2 pb e).2 rfl;have Ij:∀ g,β v4=some g->B<=g/\g≠pb/\(β lv=some g\/w.t<=g):=λg QY=>by
  grind
 have k5:∀ g,g<w.heap.size->g≠pb->β lv≠some g->(ς w4 (pb.p 4) v4).e w g:=λg h1 h2 h3=>(aD _ _ _ _ h2).trans (k3 g h1 h3);have AD:∀ (v:Value) (l:θ),(w.r 196 2 v (I l) (fW l)/\∀ g,β v=some g->B<=g/\g≠pb/\β lv≠some g)->
  (ς w4 (pb.p 4) v4).r 196 2 v (I l) (fW l)/\∀ g,β v=some g->B<=g/\g≠pb/\β v4≠some g:=λv l hv=>
  ⟨aU hv.1 λg QY=>k5 g (zbL hv.1 g QY) (hv.2 g QY).2.1 (hv.2 g QY).2.2,λg QY=>⟨(hv.2 g QY).1,(hv.2 g QY).2.1,λe=>by
   grind [zbL]⟩⟩
 have Hv:w4.t<=(ς w4 (pb.p 4) v4).heap.size:=by simp[World.setCell]
 have:iW (x.ns++[d])=iW x.ns++[ι d.k,d.r,ι d.a,ι d.b,ι d.n]:=by simp[iW]
 refine⟨⟨aB w4 pb 4 v4 _ _ _ ((k3 pb lpb ky).trans h.blk),?_,⟨hl.1,hl.2.1,λg QY=>⟨(Ij g QY).1,(Ij g QY).2.1⟩⟩,h.sz,λd' Xv=> ?_,λd' Xv=> ?_⟩,⟨hg.os.trans hb.os,hg.tape.trans hb.tape,hg.output.trans hb.output,zT hs (zT hg.size Hv),λg h1 h2 h3=>k5 g h1 h2 h3,λg QY=>(Ij g QY).2.2⟩⟩
 . grind [aU,aD]
 . rcases List.mem_append.1 Xv with hm|hm
   . exact AD d'.r d'.rl (h.rg d' hm)
   grind
 rcases List.mem_append.1 Xv with hm|hm
 . exact h.nb d' hm
 grind
def zic (B pb:Nat) (s:η) (x:Pr) (d:Nd) (lv:Value) (w:ω) (e:Ending) (w':ω):Prop:=
 ∃ yx,e=ρ (ι (I x.ns))/\gD B pb s {x with ns:=x.ns++[d]} yx w'/\PK pb lv yx w w'
theorem zhM (B pb:Nat) (s:η) (x:Pr) (lv:Value) (w:ω) (h:gD B pb s x lv w) (k a b:Nat) (r:Value) (rl:θ) (hk:k<=6) (ha:2<=k->a<I x.ns) (hb:2<=k->k<=3->b<I x.ns)
 (hr:w.r 196 2 r (I rl) (fW rl)/\∀ g,β r=some g->B<=g/\g≠pb/\β lv≠some g) (hl:I x.ns<=1000000):
 Γ 74 #[bH pb,.agg #[ι k,r,ι a,ι b,ι 0]] w (zic B pb s x (nS x.ns k r rl a b) lv w):=by
 obtain⟨D,hD⟩:=zE (nS x.ns k r rl a b);rw[<-hD];have p8:=zh hD;clear hD;obtain⟨ao,cap,rfl⟩:∃ ao cap,lv=τ ao (I x.ns) cap:=by
  exact zzDj
 have HP:=zh h;have HR:=zh hr;have hA:(κ w (Ω #[ι k,r,ι a,ι b,ι 0] 192)).h w.t #[ι k,r,ι a,ι b,ι 0] 192:=bA _ _ _ rfl;have Hk:w.u (κ w (Ω #[ι k,r,ι a,ι b,ι 0] 192)):=Ξ w _;have lw:w.t<(κ w (Ω #[ι k,r,ι a,ι b,ι 0] 192)).heap.size:=zs
 generalize yw:κ w (Ω #[ι k,r,ι a,ι b,ι 0] 192)=w1 at hA Hk lw;have:=yw;have x0:w1.i w.t 0 k:=by rw[zQ 0 hA];rfl
 have x2:w1.i w.t 2 a:=by rw[zQ 2 hA];rfl
 have x3:w1.i w.t 3 b:=by rw[zQ 3 hA];rfl
 have x4:w1.i w.t 4 0:=by rw[zQ 4 hA];rfl
 have fr:∀ o,w1.q w.t o:=λo=>bN _ _ o _ _ hA;have HA:=Θ hA Hk;have HN:=Λ ha hb hl;have SQ:D.r.oneCell'=true:=by
  rw[p8.o];show r.oneCell'=true
  rcases aY hr.1 with⟨e,_⟩|⟨_,_,e,_⟩<;>rw[e]<;>rfl
 have HRO:=zh SQ;clear h hr ha hb hl yw SQ;unfold bH;go_in;go_upto_region 1 with fail
 rcases (by omega:k=0\/k=1\/(k=2\/k=3)\/(k=4\/k=5\/k=6)) with rfl|rfl|h|h
 case' inl=>
  obtain⟨nn,K7⟩:∃ nn:Nat,nn=0:=⟨_,rfl⟩;have QG:(w1).h w.t #[ι D.k,D.r,ι D.a,ι D.b,ι nn] 192:=by
   rw[K7,p8.o];exact HA.o.1
  have P7:D.n=min 100 nn:=by
   rw[p8.o,K7];rfl
  have Hm:w.u (w1):=HA.o.2;have l2:w.t<(w1).heap.size:=aA QG;have hnq:nn<=200:=zo
  go_upto_region 11 with fail
  generalize Cj:w1=w2 at QG Hm l2 ⊢;have LI:=zh P7;have XD:=Θ QG Hm;have y4:w2.i w.t 4 nn:=by rw[zQ 4 QG];rfl
  clear K7 P7 QG Hm x0 x2 x3 x4 fr Cj;go_upto_if 49 with fail
  obtain⟨aq,J5⟩:∃ aq:Option Addr,aq=ao:=⟨_,rfl⟩;rw[<-J5] at HP HR ⊢;have Ix:=zh J5;clear J5
 case' inr.inl=>
  obtain⟨nn,K7⟩:∃ nn:Nat,nn=1:=⟨_,rfl⟩;have QG:(ς w1 (w.y 4) (ι 1)).h w.t #[ι D.k,D.r,ι D.a,ι D.b,ι nn] 192:=by
   exact zzCd
  have P7:D.n=min 100 nn:=by
   rw[p8.o,K7];rfl
  have Hm:w.u (ς w1 (w.y 4) (ι 1)):=HA.o.2.setCell (p:=((w.y 4):Addr)) bR _;have l2:w.t<(ς w1 (w.y 4) (ι 1)).heap.size:=aA QG;have hnq:nn<=200:=zo
  go_upto_region 11 with fail
  generalize Cj:ς w1 (w.y 4) (ι 1)=w2 at QG Hm l2 ⊢;have LI:=zh P7;have XD:=Θ QG Hm;have y4:w2.i w.t 4 nn:=by rw[zQ 4 QG];rfl
  clear K7 P7 QG Hm x0 x2 x3 x4 fr Cj;go_upto_if 49 with fail
  obtain⟨aq,J5⟩:∃ aq:Option Addr,aq=ao:=⟨_,rfl⟩;rw[<-J5] at HP HR ⊢;have Ix:=zh J5;clear J5
 case' inr.inr.inl=>
  have X5:=HN.o.1 zo;have qh:=HN.o.2.1 zo zo;obtain⟨da,Df⟩:=zG x.ns a X5;obtain⟨db,SB⟩:=zG x.ns b qh;obtain⟨g,rfl⟩:∃ g,ao=some ⟨g,0,none⟩:=by
   exact zzDg
  have Ep:=HP.o.below HA.o.2;have ca:=aJ Ep.row _ _ (uC _ _ _ Df);have cb:=aJ Ep.row _ _ (uC _ _ _ SB);have cl:=Ep.cells.2.2.2.2;have lg:g<w.t:=HP.o.rlt g rfl;have lpb:pb<w.t:=HP.o.lt;have hna:=HP.o.nb da (zM Df);have t8:=HP.o.nb db (zM SB);have zA:=zt a (I x.ns)
  have:=zt b (I x.ns)
  have:=lM (n:=(da.n:Int)+(db.n:Int))
  have Kb:∀ w',Below w.t w1 w'->w'.i w.t 2 a->w'.i w.t 3 b->w'.q w.t 4->Below w.t w1 w'/\w'.v pb 4 (σ g (I x.ns) cap)/\w'.i g (a*5+4) da.n/\w'.i g (b*5+4) db.n/\w'.i w.t 2 a/\w'.i w.t 3 b/\w'.q w.t 4/\w.heap.size<w'.heap.size:=λw' hb h2 h3 h4=>
   ⟨hb,(aG hb (pb.p 4) lpb).trans cl,(aG hb (g.p (a*5+4)) lg).trans ca,(aG hb (g.p (b*5+4)) lg).trans cb,h2,h3,h4,zLd lw hb.size⟩
  have YZ:=zh Kb;have HX:=Θ x2 x3;have HD:=Θ Df SB;have xd4:w1.drew.i w.t 4 0:=x4;have fd4:w1.drew.q w.t 4:=fr 4;have Ji:∀ (v:Value),(ς w1 (w.y 4) v).i w.t 2 a/\(ς w1 (w.y 4) v).i w.t 3 b:=λv=>
   ⟨by rw[zQ 2 (aB w1 w.t 4 v _ _ _ HA.o.1)];rfl,by rw[zQ 3 (aB w1 w.t 4 v _ _ _ HA.o.1)];rfl⟩
  have Hg:=λv:Value=>Kb ((ς w1 (w.y 4) v).drew) (((zBr _ w1).setCell (p:=((w.y 4):Addr)) bR v).drew) (Ji v).1 (Ji v).2 (zF 4 (aB w1 w.t 4 v _ _ _ HA.o.1));have Q3:=zh Hg;clear X5 qh Df SB Ep ca cb cl Kb x2 x3 x4 Ji Hg
  rcases h with rfl|rfl
  all_goals
   go_upto_region 6 with fail
   go_region_held3 (λw'=>Below w.t w1 w'/\w'.v pb 4 (σ g (I x.ns) cap)/\w'.i g (a*5+4) da.n/\w'.i g (b*5+4) db.n/\w'.i w.t 2 a/\w'.i w.t 3 b/\w'.q w.t 4/\w.heap.size<w'.heap.size) (first|exact YZ.o _ iM.drew HX.o.1 HX.o.2 (zF 4 HA.o.1)|exact Q3.o _) (fail)
   obtain⟨nn,K7⟩:∃ nn:Nat,nn=da.n+db.n:=⟨_,rfl⟩;have QG:(ς w1 (w.y 4) (ι ((da.n:Int)+(db.n:Int)))).drew.h w.t #[ι D.k,D.r,ι D.a,ι D.b,ι nn] 192:=by
    exact zzCd
   have P7:D.n=min 100 nn:=by
    rw[p8.o,K7];simp only[nS,nOf,ndN,HD.o.1,HD.o.2];rfl
   have Hm:w.u (ς w1 (w.y 4) (ι ((da.n:Int)+(db.n:Int)))).drew:=(HA.o.2.setCell (p:=((w.y 4):Addr)) bR _).drew;have l2:w.t<(ς w1 (w.y 4) (ι ((da.n:Int)+(db.n:Int)))).drew.heap.size:=aA QG;generalize (ς w1 (w.y 4) (ι ((da.n:Int)+(db.n:Int)))).drew=w2 at QG Hm l2 ⊢;have LI:=zh P7;have XD:=Θ QG Hm
   have y4:w2.i w.t 4 nn:=by rw[zQ 4 QG];rfl
   have hnq:nn<=200:=zo
   clear K7 P7 QG Hm xd4 fd4 x0 hna t8;go_upto_if 49 with fail
   obtain⟨aq,J5⟩:∃ aq:Option Addr,aq=some ⟨g,0,none⟩:=⟨_,rfl⟩;rw[<-J5] at HP HR ⊢;have Ix:=zh J5;clear J5
 case' inr.inr.inr=>
  have X5:=HN.o.1 zo;obtain⟨da,Df⟩:=zG x.ns a X5;obtain⟨g,rfl⟩:∃ g,ao=some ⟨g,0,none⟩:=by
   exact zzDg
  have Ep:=HP.o.below HA.o.2;have ca:=aJ Ep.row _ _ (uC _ _ _ Df);have cl:=Ep.cells.2.2.2.2;have lg:g<w.t:=HP.o.rlt g rfl;have lpb:pb<w.t:=HP.o.lt;have hna:=HP.o.nb da (zM Df);have zA:=zt a (I x.ns)
  have Kb:∀ w',Below w.t w1 w'->w'.i w.t 2 a->w'.i w.t 3 b->w'.q w.t 4->Below w.t w1 w'/\w'.v pb 4 (σ g (I x.ns) cap)/\w'.i g (a*5+4) da.n/\w'.i w.t 2 a/\w'.i w.t 3 b/\w'.q w.t 4/\w.heap.size<w'.heap.size:=λw' hb h2 h3 h4=>
   ⟨hb,(aG hb (pb.p 4) lpb).trans cl,(aG hb (g.p (a*5+4)) lg).trans ca,h2,h3,h4,zLd lw hb.size⟩
  have YZ:=zh Kb;have HX:=Θ x2 x3;have HD:=zh Df;have xd4:w1.drew.i w.t 4 0:=x4;have fd4:w1.drew.q w.t 4:=fr 4;have Ji:∀ (v:Value),(ς w1 (w.y 4) v).i w.t 2 a/\(ς w1 (w.y 4) v).i w.t 3 b:=λv=>
   ⟨by rw[zQ 2 (aB w1 w.t 4 v _ _ _ HA.o.1)];rfl,by rw[zQ 3 (aB w1 w.t 4 v _ _ _ HA.o.1)];rfl⟩
  have Hg:=λv:Value=>Kb ((ς w1 (w.y 4) v).drew) (((zBr _ w1).setCell (p:=((w.y 4):Addr)) bR v).drew) (Ji v).1 (Ji v).2 (zF 4 (aB w1 w.t 4 v _ _ _ HA.o.1));have Q3:=zh Hg;clear X5 Df Ep ca cl Kb x2 x3 x4 Ji Hg
  rcases h with rfl|rfl|rfl
  all_goals
   go_upto_region 10 with fail
   go_region_held3 (λw'=>Below w.t w1 w'/\w'.v pb 4 (σ g (I x.ns) cap)/\w'.i g (a*5+4) da.n/\w'.i w.t 2 a/\w'.i w.t 3 b/\w'.q w.t 4/\w.heap.size<w'.heap.size) (first|exact YZ.o _ iM.drew HX.o.1 HX.o.2 (zF 4 HA.o.1)|exact Q3.o _) (fail);obtain⟨nn,K7⟩:∃ nn:Nat,nn=da.n:=⟨_,rfl⟩
   have QG:(ς w1 (w.y 4) (ι (da.n:Int))).drew.h w.t #[ι D.k,D.r,ι D.a,ι D.b,ι nn] 192:=by
    exact zzCd
   have P7:D.n=min 100 nn:=by
    rw[p8.o,K7];simp only[nS,nOf,ndN,HD.o];rfl
   have Hm:w.u (ς w1 (w.y 4) (ι (da.n:Int))).drew:=(HA.o.2.setCell (p:=((w.y 4):Addr)) bR _).drew;have l2:w.t<(ς w1 (w.y 4) (ι (da.n:Int))).drew.heap.size:=aA QG;generalize (ς w1 (w.y 4) (ι (da.n:Int))).drew=w2 at QG Hm l2 ⊢;have LI:=zh P7;have XD:=Θ QG Hm;have y4:w2.i w.t 4 nn:=by rw[zQ 4 QG];rfl
   have hnq:nn<=200:=zo
   clear K7 P7 QG Hm xd4 fd4 x0 hna;go_upto_if 49 with fail
   obtain⟨aq,J5⟩:∃ aq:Option Addr,aq=some ⟨g,0,none⟩:=⟨_,rfl⟩;rw[<-J5] at HP HR ⊢;have Ix:=zh J5;clear J5
 all_goals
  go_cut [] (λwx=>wx.h w.t #[ι D.k,D.r,ι D.a,ι D.b,ι D.n] 192/\w.u wx)
  case first=>
   by_cases hc:100<nn
   . have z:(100:Int)<(nn:Int):=zo
     have:=bN w2 w.t 4 _ _ XD.o.1;go_wp2;go_meet;exact⟨by rw[show D.n=100 by rw[LI.o];omega];exact aB w2 w.t 4 _ _ _ _ XD.o.1,XD.o.2.setCell (p:=((w.y 4):Addr)) bR _⟩
   . have z:¬ (100:Int)<(nn:Int):=zo
     go_wp2;go_meet;exact⟨by rw[show D.n=nn by rw[LI.o];omega];exact XD.o.1,XD.o.2⟩
  case rest=>
   obtain⟨yj,Hu⟩:=hcut;have UD:=HP.o.below Hu;have c4:=UD.cells.2.2.2.2;have Hw:=zh UD.row;have Y0:=Θ yj Hu;have:=HN.o.2.2
   have Nw:∀ w1,(κ wc (Ω #[ι D.k,D.r,ι D.a,ι D.b,ι D.n] 192)).grownBy w1 (β (Value.slice aq (I x.ns) cap))->(w1.v pb 4 (τ aq (I x.ns) cap)/\w1.i w.t 0 D.k/\w1.v w.t 1 D.r/\w1.i w.t 2 D.a/\w1.i w.t 3 D.b/\w1.i w.t 4 D.n)/\w1.q pb 4/\pb<w1.t:=by
    intro w1 hg;have hB:=(zBr wc.t wc).alloc bR (Ω #[ι D.k,D.r,ι D.a,ι D.b,ι D.n] 192);have k1:=(hg.block pb (zLd UD.lt hB.size) (λe=>(UD.low.2.2 pb e.symm).2 rfl)).trans ((hB.block _ UD.lt).trans UD.blk);have k2:=(hg.block w.t (zLd (aA yj) hB.size) (λe=>by have:=HP.o.rlt _ e.symm;omega)).trans ((hB.block _ (aA yj)).trans yj)
    exact⟨⟨by rw[bF w1 pb 4 _ _ _ k1];rfl,by rw[zQ 0 k2];rfl,by rw[zQ 1 k2];rfl,by rw[zQ 2 k2];rfl,by rw[zQ 3 k2];rfl,by rw[zQ 4 k2];rfl⟩,bN w1 pb 4 _ _ k1,aA k1⟩
   have Q5:=zh Nw;have tN:=zh (Nw _ (eN _ _))
   have AG:wc.v pb 4 (τ aq (I x.ns) cap)/\wc.i w.t 0 D.k/\wc.v w.t 1 D.r/\wc.i w.t 2 D.a/\wc.i w.t 3 D.b/\wc.i w.t 4 D.n:=⟨c4,by rw[zQ 0 yj];rfl,by rw[zQ 1 yj];rfl,by rw[zQ 2 yj];rfl,by rw[zQ 3 yj];rfl,by rw[zQ 4 yj];rfl⟩;clear UD Hu Nw;go_upto_region 13 with fail
   refine zzAl ?_;refine bV (λw'=>w'.v pb 4 (τ aq (I x.ns) cap)/\w'.i w.t 0 D.k/\w'.v w.t 1 D.r/\w'.i w.t 2 D.a/\w'.i w.t 3 D.b/\w'.i w.t 4 D.n) 10 zr AG (λHc=> ?_);refine aE 0 Hc ?_;refine aE 1 Hc ?_;refine aE 2 Hc ?_;refine aE 3 Hc ?_;refine aE 4 Hc ?_;refine aE 5 Hc ?_;refine bY 6 (λK hK=> ?_);go_simp;refine hK.out _ _ (λ_=>tN.o.1) ?_;clear hK K Hc AG c4;refine zzAF ?_;refine bY 7 (λK hK=> ?_)
   refine mB zr _ _ zr elemNode (τ aq (I x.ns) cap) (I x.ns) (iW x.ns) zr (by exact (aN Hw.o (iM.alloc bR _).drew)) wc.z 1 1 [ι D.k,D.r,ι D.a,ι D.b,ι D.n] zr zr (cI wc #[ι D.k,D.r,ι D.a,ι D.b,ι D.n] 192 wc.t rfl) (by have h1:=HRO.o;intro u hu;simp only[List.mem_cons,List.not_mem_nil,or_false] at hu;rcases hu with rfl|rfl|rfl|rfl|rfl<;>first|rfl|exact h1) zd zo zd ?_
   intro v4 w4 Hr ql Qu;obtain⟨g4,Hz,rfl⟩:=cH Hr;have ks:=Q5.o w4 ⟨ql.os,ql.tape,ql.output,ql.size,ql.block⟩;refine hK.out _ _ (λ_=>ks.1) ?_;clear hK K;refine zzAF ?_;refine bY 8 (λK hK=> ?_);go_simp;refine hK.out _ _ (λ_=>ks.1) ?_;clear hK K;refine zzAF ?_;refine bY 9 (λK hK=> ?_);go_simp;refine hK.out _ _ (λ_=>ks.1) ?_;clear hK K;refine zzAF ?_;obtain⟨_,ks2,ks3⟩:=ks
   refine bY 10 (λK hK=> ?_);go_simp;refine hK.out _ _ (λh=>absurd rfl h) ?_;clear hK K;refine zzAF ?_;refine zzAg ?_;have Hg:=HP.o.app (d:=D) (w3:=(κ wc (Ω #[ι D.k,D.r,ι D.a,ι D.b,ι D.n] 192)).drew) (oB Y0.o.2 (iM.alloc bR _).drew Y0.o.2.size) Hr ql Qu (by have h1:=HR.o;rw[p8.o];exact h1) (by rw[p8.o];exact Nat.min_le_left _ _);have cf:=Hg.1.cells.2.2.2.2
   have lf:=Hg.1.lt;have HF:=zh Hg;clear Hr ql Qu ks2 ks3 Hg;generalize w4.setCell (pb.p 4) (σ g4 (I x.ns+1) Hz)=w5 at HF cf lf ⊢;go_wp2;go_ret;exact⟨_,by go_num,HF.o.1,by rw[<-Ix.o];exact HF.o.2⟩
