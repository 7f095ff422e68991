/- Part of a proof. No condition. -/
import Derived.Test.YtmfnmkccbldfpaaGreatDoorS33
import Derived.Test.YtmfnmkccbldfpaaGreatDoorS35
set_option linter.unusedVariables false
set_option linter.unusedSimpArgs false
set_option maxRecDepth 100000
set_option maxHeartbeats 16000000
namespace Go.Proofs.YtmfnmkccbldfpaaGreatDoor
open Go.RowKit Go.Lib Tryz
theorem zzBl {p:Prop} (h:p:=by have:=Qa.o.b;rw[<-HW.o] at this;exact this):p:=h
theorem zzA5 {p:Prop} (h:p:=by rw[bZ];have:=Pw.o;omega):p:=h
theorem zzAd {p:Prop} (h:p:=by simp[results,results33,go_sem,z0,z1,z2]):p:=h
theorem zzAT {p:Prop} (h:p:=by
 have hk:=(List.getElem?_eq_some_iff.1 hd).1
 rcases aY h.nrow with⟨_,h0⟩|⟨g,cap,e,_,hg⟩
 all_goals grind):p:=h
theorem zzAN {p:Prop} (h:p:=by
 have HW:zH (w.heap.size=A):=zh hA;have yr:zH (nZ B mb N nl D S w2):=zh (h.below (by have:=Qa.o.b;rw[<-HW.o] at this;omega));obtain⟨_,c1,c2,c3,c4⟩:=yr.o.cells;rw[Qr] at c4;obtain⟨m0,m1,m2,m3,m4⟩:=Qa.o.ncells;have Y6:mb<w2.heap.size:=yr.o.lt;have VZ:=zh Qa.o.r
 obtain⟨x0,y0,x1,y1,x2,y2⟩:=iG VZ.o (.bool true) (.slice none 0 0);go_wp2;obtain⟨z0,z1,z2,zk,zb⟩:=jS VZ.o (.bool true) (.slice none 0 0) (.slice none 0 0);refine bodyPost_ret (v:=.agg #[.bool true,.slice none 0 0,.slice none 0 0]) (by simp[results,results33,go_sem,z0,z1,z2]) rfl ?_;have hb:=(Qa.o.b.trans zb).mono (Nat.le_of_eq HW.o);exact⟨D,S,none,none,0,0,rfl,h.below hb,hr,oN.of_below hb,rS _ _ _,rS _ _ _⟩):p:=h
variable {w:ω} {v nl:Value} {A k:Nat} {d:Nd} {t:TypeId} {N:List Nd}
theorem kF {l:θ} (h:w.r 196 2 v (I l) (fW l)):∃ ao cap,v=τ ao (I l) cap:=by
 grind [aY]
structure mV (D:MD) (M:Mk):Prop where
 last:D.last=M.last
 fL:D.fL=M.fL
 on:D.on=M.on
 len:I D.rL=I M.cL
 cL:∀ k,nY (χ (D.rL.map (·.2)) k []) (χ M.cL k [])
 bd:∀ p∈D.rL,∀ r∈p.2,0<=r.1/\r.1<=1114111/\0<=r.2/\r.2<=1114111
def uT (B mb:Nat) (N:List Nd) (nl:Value) (S:MS) (r:lF×Mk) (w:ω) (e:Ending) (w':ω):Prop:=
 ∃ (D':MD) (S':MS) (ao al:Option Addr) (co cl:Nat),e=ρ (.agg #[φ r.1.emp,τ ao (I r.1.fst) co,τ al (I r.1.lst) cl])/\nZ B mb N nl D' S' w'/\mV D' r.2/\oN mb S S' w w'/\
  iN mb S' w' (τ ao (I r.1.fst) co) r.1.fst/\iN mb S' w' (τ al (I r.1.lst) cl) r.1.lst
def xE (N:List Nd) (nl:Value) (k:Nat) (f:Mk->lF×Mk):Prop:=∀ (B mb:Nat) (D:MD) (S:MS) (w:ω) (M:Mk),nZ B mb N nl D S w->mV D M->iJ M->
 Γ 33 #[bH mb,ι k] w (uT B mb N nl S (f M) w)
theorem pC:∀ (N:List Nd) (k:Nat) (d:Nd),N[k]?=some d->(iW N)[k*5]?=some (ι d.k)/\(iW N)[k*5+1]?=some d.r/\(iW N)[k*5+2]?=some (ι d.a)/\(iW N)[k*5+3]?=some (ι d.b)/\(iW N)[k*5+4]?=some (ι d.n)
 | [],k,d,h=>by simp at h
 | e::N,0,d,h=>by
  simp only[zLb,Option.some.injEq] at h;subst h;exact⟨rfl,rfl,rfl,rfl,rfl⟩
 | e::N,k+1,d,h=>by
  have:=pC N k d zg;have e1:∀ j,(iW (e::N))[(k+1)*5+j]?=(iW N)[k*5+j]?:=λj=>by
   grind [iW]
  have:=e1 0
  grind
structure EntO (w:ω) (A:Nat) (dk:Nat) (dr:Value) (d:Nd) (w2:ω):Prop where
 r:w2.h A #[φ false,ν,ν] 112
 n:w2.h (A+1) #[ι dk,dr,ι d.a,ι d.b,ι d.n] 192
 b:Below A w w2
 s:w2.t=A+2
theorem zbE (w:ω) (d:Nd):EntO w w.t d.k d.r d (κ (κ w (Ω #[φ false,ν,ν] 112)) (Ω #[ι d.k,d.r,ι d.a,ι d.b,ι d.n] 192)):=by
 have:(κ w (Ω #[φ false,ν,ν] 112)).heap.size=w.heap.size+1:=zs
 refine⟨?_,?_,(Ξ w _).alloc zo _,zs⟩
 all_goals grind [aV]
theorem EntO.ncells {dk:Nat} {dr:Value} {w2:ω} (h:EntO w A dk dr d w2):w2.i (A+1) 0 dk/\w2.v (A+1) 1 dr/\w2.i (A+1) 2 d.a/\w2.i (A+1) 3 d.b/\w2.i (A+1) 4 d.n:=
 ⟨by rw[zQ 0 h.n];rfl,by rw[zQ 1 h.n];rfl,by rw[zQ 2 h.n];rfl,by rw[zQ 3 h.n];rfl,by rw[zQ 4 h.n];rfl⟩
theorem jS {a b c:Value} (h:w.h A #[a,b,c] t) (x y z:Value):
 let w3:=ς (ς (ς w A.a x) (A.p 1) y) (A.p 2) z
 w3.v A 0 x/\w3.v A 1 y/\w3.v A 2 z/\(∀ g,g≠A->w3.e w g)/\Below A w w3:=by
 have h1:=aB w A 0 x _ _ _ h;have h2:=aB _ A 1 y _ _ _ h1;have h3:=aB _ A 2 z _ _ _ h2;have hk:∀ g,g≠A->(ς (ς (ς w A.a x) (A.p 1) y) (A.p 2) z).e w g:=λg hg=>by
  grind [aD]
 exact⟨by rw[zQ 0 h3];rfl,by rw[zQ 1 h3];rfl,by rw[zQ 2 h3];rfl,hk,rfl,rfl,rfl,zs,λg hg=>hk g zo⟩
theorem iG {a b c:Value} (h:w.h A #[a,b,c] t) (x y:Value):
 w.v A 0 a/\w.q A 0/\(ς w A.a x).v A 1 b/\(ς w A.a x).q A 1/\
 (ς (ς w A.a x) (A.p 1) y).v A 2 c/\(ς (ς w A.a x) (A.p 1) y).q A 2:=by
 have h1:=aB w A 0 x _ _ _ h;have h2:=aB _ A 1 y _ _ _ h1;exact⟨by rw[zQ 0 h];rfl,bN _ _ _ _ _ h,by rw[zQ 1 h1];rfl,bN _ _ _ _ _ h1,by rw[zQ 2 h2];rfl,bN _ _ _ _ _ h2⟩
theorem rS (mb:Nat) (S:MS) (w:ω):iN mb S w ν []:=⟨dA.nil w,λg hg=>by cases hg⟩
theorem xX (hd:N[k]?=some d) (B mb:Nat) (D:MD) (S:MS) (w:ω) (M:Mk) (h:nZ B mb N nl D S w) (hr:mV D M) (Qr:D.on=true):
 Γ 33 #[bH mb,ι k] w (uT B mb N nl S (iU,M) w):=by
 obtain⟨c0,c1,c2,c3,c4⟩:=h.cells;rw[Qr] at c4;obtain⟨Vm,cr,x7⟩:=kF (h.nrg d (zM hd)).1;obtain⟨gN,Y1,YS,GT,jn⟩:∃ g c,nl=σ g (I N) c/\k<I N/\g<w.t:=by
  exact zzAT
 have QK:=h.nrow;rw[YS] at QK;obtain⟨d0,d1,d2,d3,d4⟩:=pC N k d hd;have n0:=aJ QK _ _ d0;have n1:=aJ QK _ _ d1;have n2:=aJ QK _ _ d2;have n3:=aJ QK _ _ d3;have n4:=aJ QK _ _ d4;rw[x7] at n1;rw[YS] at c0;have zk:=zt k (I N)
 have Qa:=zh (zbE w d);rw[x7] at Qa;have Yv:w.heap.size<w.heap.size+1+1:=zo
 have yh:zH (mb<w.heap.size):=zh h.lt;clear QK YS d0 d1 d2 d3 d4;unfold bH;obtain⟨A,hA⟩:∃ A,w.heap.size=A:=⟨_,rfl⟩;rw[hA] at Qa yh jn Yv;have Y6:=yh.o;go_in;go_upto_region 2 with fail
 generalize QG:(κ (κ w (Ω #[φ false,ν,ν] 112)) (Ω #[ι d.k,τ Vm (I d.rl) cr,ι d.a,ι d.b,ι d.n] 192))=w2 at Qa ⊢;exact zzAN
theorem make_nil (hd:N[k]?=some d) (hk:d.k=0) (B mb:Nat) (D:MD) (S:MS) (w:ω) (M:Mk) (h:nZ B mb N nl D S w) (hr:mV D M) (Qr:D.on=false):
 Γ 33 #[bH mb,ι k] w (uT B mb N nl S (iU,M) w):=by
 obtain⟨c0,c1,c2,c3,c4⟩:=h.cells;rw[Qr] at c4;obtain⟨Vm,cr,x7⟩:=kF (h.nrg d (zM hd)).1;obtain⟨gN,Y1,YS,GT,jn⟩:∃ g c,nl=σ g (I N) c/\k<I N/\g<w.t:=by
  exact zzAT
 have QK:=h.nrow;rw[YS] at QK;obtain⟨d0,d1,d2,d3,d4⟩:=pC N k d hd;have n0:=aJ QK _ _ d0;have n1:=aJ QK _ _ d1;have n2:=aJ QK _ _ d2;have n3:=aJ QK _ _ d3;have n4:=aJ QK _ _ d4;rw[x7] at n1;rw[YS] at c0;rw[hk] at n0;have zk:=zt k (I N)
 have Qa:=zh (zbE w d);rw[x7,hk] at Qa;have Yv:w.heap.size<w.heap.size+1+1:=zo
 have yh:zH (mb<w.heap.size):=zh h.lt;clear QK YS d0 d1 d2 d3 d4 hk;unfold bH;obtain⟨A,hA⟩:∃ A,w.heap.size=A:=⟨_,rfl⟩;rw[hA] at Qa yh jn Yv;have Y6:=yh.o;go_in;go_upto_region 2 with fail
 generalize QG:(κ (κ w (Ω #[φ false,ν,ν] 112)) (Ω #[ι ((0:Nat):Int),τ Vm (I d.rl) cr,ι d.a,ι d.b,ι d.n] 192))=w2 at Qa ⊢;exact zzAN
theorem bJ {e:TypeId} {size n:Nat} {xs:ζ} (h:w.r e size v n xs):∃ ao cap,v=τ ao n cap:=by
 grind [aY]
theorem dZ {w':ω} {e:TypeId} {size n:Nat} {xs:ζ} {cs:Array Value} (h:w.r e size v n xs) (hA:w.h A cs t) (ht:e≠t) (hk:∀ g,g≠A->w'.e w g):w'.r e size v n xs:=
 aU h λg hg=>hk g λe2=>by
  grind [dE]
section
variable {B mb A:Nat} {N:List Nd} {nl:Value} {D:MD} {S T:MS} {w w' w2:ω} {cs:Array Value} {v:Value} {l:ο} {r:Rng}
theorem iN.part (h:iN mb S w v l) (hA:w.h A cs 112) (hk:∀ g,g≠A->w'.e w g):iN mb S w' v l:=⟨dZ h.1 hA zd hk,h.2⟩
theorem yW.part (h:yW mb S w v r) (hA:w.h A cs 112) (hk:∀ g,g≠A->w'.e w g):yW mb S w' v r:=⟨dZ h.1 hA zd hk,h.2⟩
theorem nZ.part (h:nZ B mb N nl D S w) (hA:w.h A cs 112) (hk:∀ g,g≠A->w'.e w g):nZ B mb N nl D S w':=by
 have hm:mb≠A:=λe=>by
  subst e;have:=h.blk
  grind
 exact⟨(hk mb hm).trans h.blk,dZ h.nrow hA zd hk,h.nfree,λd hd=>(h.nrg d hd).part hA hk,dZ h.rR hA zd hk,λp hp=>(h.rr p hp).part hA hk,dZ h.lR hA zd hk,dZ h.fR hA zd hk,λi v hv=>(h.fli i v hv).part hA hk,h.a1,h.a2,h.a3,h.low⟩
theorem nZ.notA (h:nZ B mb N nl D S w) (hA:w.h A cs 112):¬ Mut mb S A:=λhm=>by
 have key:∀ t cs2,w.h A cs2 t->t≠112->False:=λt cs2 h1 h2=>by
  grind
 rcases hm with rfl|e|e|e
 . exact key _ _ h.blk zd
 . obtain⟨c2,h1⟩:=dE h.rR e;grind
 . obtain⟨c2,h1⟩:=dE h.lR e;grind
 obtain⟨c2,h1⟩:=dE h.fR e;grind
theorem oN.later (h:oN mb S T w w2) (hb:Below w.t w2 w'):oN mb S T w w':=
 ⟨hb.os.trans h.os,hb.tape.trans h.tape,hb.output.trans h.output,zT h.size hb.size,λb Qy hm=>(hb.block b Qy).trans (h.keep b Qy hm),h.new⟩
theorem zeh (h:nZ B mb N nl D S w) {ob:Obj} {u:Value} (hg:(κ w ob).grownBy w2 (β u)) (hu:β u≠some mb):w2.h mb #[nl,S.vR,S.vL,S.vF,φ D.on] 110/\mb<w2.t:=by
 have:=(eD h.lt hg hu).trans h.blk
 grind
theorem undrew {w2:ω} {b:Option Nat} (h:w.drew.grownBy w2 b):w.grownBy w2 b:=⟨h.os,h.tape,h.output,h.size,h.block⟩
theorem zi0 {M:Mk} (hr:mV D M) (Hq:iJ M) {rv:Value} {rl c:Rng} (hc:nY rl c) (hb:∀ r∈rl,0<=r.1/\r.1<=1114111/\0<=r.2/\r.2<=1114111):
 mV {rL:=D.rL++[(rv,rl)],last:=D.last++[-1],fL:=D.fL++[[]],on:=D.on} ⟨M.cL++[c],M.last++[-1],M.fL++[[]],M.on⟩:=by
 refine⟨by rw[hr.last],by rw[hr.fL],hr.on,by simp[hr.len],λk=> ?_,λp hp=> ?_⟩
 . have:I (D.rL.map (·.2))=I M.cL:=by rw[List.length_map];exact hr.len
   show nY (χ ((D.rL++[(rv,rl)]).map (·.2)) k []) (χ (M.cL++[c]) k []);rw[List.map_append]
   rcases Nat.lt_trichotomy k (I M.cL) with h|h|h
   . have:=hr.cL k
     grind
   all_goals grind [nY.refl]
 rcases List.mem_append.1 hp with h|h
 . exact hr.bd p h
 grind
theorem sX {o:Nat} {c:Array Value} {o1 o2:Obj} (h:w.h A c t):(κ (κ w o1) o2).q A o:=by
 have hb:w.u (κ (κ w o1) o2):=(Ξ w _).alloc zs _;exact bN _ _ _ _ _ ((hb.block A (aA h)).trans h)
theorem li_new (w:ω) (x:Nat):dA (κ w (Ω #[ι x] 3)) (σ w.t 1 1) (gE [x]):=
 ⟨rfl,.inr ⟨w.t,1,_,rfl,rC,bA _ _ _ rfl,bR,zd,rfl,rfl⟩⟩
end
theorem elemRngs:eO prog 98 190 1 24:=eO.of (z:=ν) underlying98 zK rfl zd
theorem ziJ {c:Rng} (hd:N[k]?=some d) (hk:d.k=1) (hc:nY d.rl c) (xu:∀ r∈d.rl,0<=r.1/\r.1<=1114111/\0<=r.2/\r.2<=1114111) (B mb:Nat) (D:MD) (S:MS) (w:ω) (M:Mk) (h:nZ B mb N nl D S w) (hr:mV D M) (Hq:iJ M) (Qr:D.on=false):
 Γ 33 #[bH mb,ι k] w (uT B mb N nl S (fP (.cL c) M) w):=by
 have Px:=zh Qr;have HX:=Λ hc xu Hq;have Ho:I D.rL=I M.fL:=hr.len.trans Hq.c;have XC:=zh Ho;have OG:¬ M.on=true:=by rw[<-hr.on,Qr];decide
 have LG:=zh OG;have Ej:I D.rL<=65:=by rw[Ho];exact Hq.le
 have GY:I D.last<=65:=by rw[hr.last,Hq.a];exact Hq.le
 have Yi:I D.fL<=65:=by rw[hr.fL];exact Hq.le
 obtain⟨aoR,cR,kh⟩:=bJ h.rR;obtain⟨aoL,cL,Td⟩:=bJ h.lR;obtain⟨aoF,cF,Ke⟩:=bJ h.fR;have HV:=Λ kh Td Ke;clear hc xu Hq Ho OG;obtain⟨c0,c1,c2,c3,c4⟩:=h.cells;rw[Qr] at c4;obtain⟨Vm,cr,x7⟩:=kF (h.nrg d (zM hd)).1;obtain⟨gN,Y1,YS,GT,jn⟩:∃ g c,nl=σ g (I N) c/\k<I N/\g<w.t:=by
  exact zzAT
 have QK:=h.nrow;rw[YS] at QK;obtain⟨d0,d1,d2,d3,d4⟩:=pC N k d hd;have n0:=aJ QK _ _ d0;have n1:=aJ QK _ _ d1;have n2:=aJ QK _ _ d2;have n3:=aJ QK _ _ d3;have n4:=aJ QK _ _ d4;rw[x7] at n1;rw[YS] at c0;rw[hk] at n0;have zk:=zt k (I N)
 have Qa:=zh (zbE w d);rw[x7,hk] at Qa;have H:=Λ h hr hd;have wI:=zh x7;have Yv:w.heap.size<w.heap.size+1+1:=zo
 have yh:zH (mb<w.heap.size):=zh h.lt;clear h hr QK x7 YS d0 d1 d2 d3 d4 Qr hd hk;unfold bH;obtain⟨A,hA⟩:∃ A,w.heap.size=A:=⟨_,rfl⟩;rw[hA] at Qa yh jn Yv;have Y6:=yh.o;go_in;go_upto_region 2 with fail
 generalize QG:(κ (κ w (Ω #[φ false,ν,ν] 112)) (Ω #[ι ((1:Nat):Int),τ Vm (I d.rl) cr,ι d.a,ι d.b,ι d.n] 192))=w2 at Qa ⊢;clear QG n0 n1 n2 n3 n4 c0 c1 c2 c3 c4 zk jn;have HW:zH (w.t=A):=zh hA;clear hA Y6 Yv;have yr:zH (nZ B mb N nl D S w2):=zh (H.o.1.below zzBl);obtain⟨_,c1,c2,c3,c4⟩:=yr.o.cells;rw[Px.o] at c4;obtain⟨m0,m1,m2,m3,m4⟩:=Qa.o.ncells
 have lA:A<w2.t:=by rw[Qa.o.s];omega
 have lA1:A+1<w2.t:=by rw[Qa.o.s];omega
 have Y6:mb<w2.t:=yr.o.lt;clear kh Td Ke;rw[HV.o.1] at c1;by_cases Jv:64<I D.rL
 . have z64:(64:Int)<(I D.rL:Int):=zo
   have QM:zH (fP (.cL c) M=(iU,{M with on:=true})):=zh (by rw[fP,zN LG.o,zP (by rw[<-XC.o];exact Jv)]);have fr4:=bN w2 mb 4 _ _ yr.o.blk;go_upto_region 8 with fail
   have VZ:zH ((ς w2 (mb.p 4) (φ true)).h A #[φ false,ν,ν] 112):=zh (by rw[aD _ _ _ _ (show A≠mb by have:=yh.o;omega)];exact Qa.o.r);have VY:=zh (yr.o.setOn true);have tI:zH (oN mb S S w (ς w2 (mb.p 4) (φ true))):=zh ((oN.of_below (Qa.o.b.mono (Nat.le_of_eq HW.o))).trans (oN.set mb 4 _ (.inl rfl)));have lA:A<(ς w2 (mb.p 4) (φ true)).t:=aA VZ.o;clear fr4 c1 c2 c3 c4 m0 m1 m2 m3 m4 lA1 Y6
   generalize w2.setCell (mb.p 4) (φ true)=w3 at VZ VY tI lA ⊢;obtain⟨x0,y0,x1,y1,x2,y2⟩:=iG VZ.o (φ true) ν;go_wp2;clear x0 y0 x1 y1 x2 y2;obtain⟨z0,z1,z2,zk,zb⟩:=jS VZ.o (φ true) ν ν;refine bodyPost_ret (v:=.agg #[φ true,ν,ν]) zzAd rfl ?_;rw[QM.o];have hb:=zb.mono (Nat.le_of_eq HW.o)
   exact⟨{D with on:=true},S,none,none,0,0,rfl,VY.o.part VZ.o zk,⟨H.o.2.1.last,H.o.2.1.fL,rfl,H.o.2.1.len,H.o.2.1.cL,H.o.2.1.bd⟩,tI.o.later hb,rS _ _ _,rS _ _ _⟩
 have z64:¬ (64:Int)<(I D.rL:Int):=zo
 have QM:zH (fP (.cL c) M=(⟨false,[I M.fL],[I M.fL]⟩,⟨M.cL++[c],M.last++[-1],M.fL++[[]],M.on⟩)):=zh (by rw[fP,zN LG.o,zN (by rw[<-XC.o];exact Jv)]);go_upto_region 10 with fail
 have Nw:∀ w1,(κ w2 (Ω #[τ Vm (I d.rl) cr] 190)).grownBy w1 (β S.vR)->(w1.v mb 1 (τ aoR (I D.rL) cR)/\w1.v (A+1) 1 (τ Vm (I d.rl) cr))/\w1.q mb 1/\mb<w1.t:=by
  intro w1 hg;have k1:=(zeh yr.o hg yr.o.a1.1).1;have k2:=(eD lA1 hg (λe=>by
   have h2:=eE H.o.1.rR _ e;have:=HW.o;omega)).trans Qa.o.n
  exact⟨⟨by rw[bF w1 mb 1 _ _ _ k1,<-HV.o.1];rfl,by rw[zQ 1 k2];rfl⟩,bN w1 mb 1 _ _ k1,aA k1⟩
 have Q5:=zh Nw;have tN:=zh (Nw _ (eN _ _));have AG:w2.v mb 1 (τ aoR (I D.rL) cR)/\w2.v (A+1) 1 (τ Vm (I d.rl) cr):=⟨c1,m1⟩;have Km:zH (w2.r 190 1 (τ aoR (I D.rL) cR) (I D.rL) (D.rL.map (·.1))):=zh (by rw[<-HV.o.1];exact yr.o.rR);clear Nw;refine zzAl ?_;refine bV (λw'=>w'.v mb 1 (τ aoR (I D.rL) cR)/\w'.v (A+1) 1 (τ Vm (I d.rl) cr)) 13 zr AG (λHc=> ?_)
 refine zzAC ?_;refine bY 8 (λK hK=> ?_);go_simp;refine hK.out _ _ (λ_=>tN.o.1) ?_;clear hK K Hc AG;refine zzAF ?_;refine bY 9 (λK hK=> ?_)
 refine mB zr _ _ zr elemRngs (τ aoR (I D.rL) cR) (I D.rL) (D.rL.map (·.1)) zr (by exact (aN Km.o (iM.alloc bR _).drew)) w2.z 1 1 [τ Vm (I d.rl) cr] zr zr (cI w2 #[τ Vm (I d.rl) cr] 190 w2.t rfl) zzAU zd zo zd ?_;intro v4 w4 Hr ql Qu;obtain⟨g4,Hz,rfl⟩:=cH Hr
 have pd:(κ w2 (Ω #[τ Vm (I d.rl) cr] 190)).grownBy w4 (β S.vR):=by rw[HV.o.1];exact undrew ql
 have ks:=Q5.o w4 pd;refine hK.out _ _ (λ_=>ks.1) ?_;clear hK K;refine zzAF ?_;refine bY 10 (λK hK=> ?_);go_simp;refine hK.out _ _ (λ_=>ks.1) ?_;clear hK K;refine zzAF ?_;refine bY 11 (λK hK=> ?_);go_simp;refine hK.out _ _ (λ_=>ks.1) ?_;clear hK K;refine zzAF ?_;refine bY 12 (λK hK=> ?_);go_simp;refine hK.out _ _ (λ_=>ks.1) ?_;clear hK K;(try simp only[Act.put,lA,lB,lC])
 obtain⟨_,ks2,ks3⟩:=ks;refine bY 13 (λK hK=> ?_);go_simp;refine hK.out _ _ (λh=>absurd rfl h) ?_;clear hK K;refine zzAF ?_;refine zzAg ?_;have P7:¬ Mut mb S A:=λhm=>by
  have h1:=H.o.1.mlt A hm;have:=HW.o;omega
 have Qd:=yr.o.pushR (v':=σ g4 (I D.rL+1) Hz) (r:=τ Vm (I d.rl) cr) (l:=d.rl) (by have h1:=yr.o.nrg d (zM H.o.2.2);rw[wI.o] at h1;exact h1) Hr pd (by rw[HV.o.1];exact Qu);have Qk:=zh Qd;have wl:zH ((ς w4 (mb.p 1) (σ g4 (I D.rL+1) Hz)).h A #[φ false,ν,ν] 112):=zh ((Qd.2.keep A lA P7).trans Qa.o.r)
 have JQ:=zh ((oN.of_below (Qa.o.b.mono (Nat.le_of_eq HW.o))).trans Qd.2);have HNM:=zh P7;have ve:=zh lA;clear Qd Hr ql Qu pd ks2 ks3 P7 Q5 tN Km c1 c2 c3 c4 m0 m1 m2 m3 m4 lA lA1 Y6 z64 Jv;generalize w4.setCell (mb.p 1) (σ g4 (I D.rL+1) Hz)=w5 at Qk wl JQ ⊢;obtain⟨_,_,e2,_,_⟩:=Qk.o.1.cells
 replace e2:w5.v mb 2 S.vL:=e2
 rw[HV.o.2.1] at e2;have jo:zH (w5.r 3 1 (τ aoL (I D.last) cL) (I D.last) (dP D.last)):=zh (by rw[<-HV.o.2.1];exact Qk.o.1.lR)
 go_upto_region 12 with (at_builtin;refine bM _ rfl _ _ rfl oY (τ aoL (I D.last) cL) (I D.last) (dP D.last) zr (by exact aN jo.o (iM.alloc bR _)) w5.z 1 1 [ι (-1)] zr zr (cI _ #[ι (-1)] _ _ rfl) zd zd zo zd ?_;intro v6 w6 XU PY TO;obtain⟨g6,XE,rfl⟩:=cH XU;have U0:(κ w5 (Ω #[ι (-1)] 3)).grownBy w6 (β S.vL):=(by rw[HV.o.2.1];exact PY);have q6:=zeh Qk.o.1 U0 Qk.o.1.a1.2.1;have c6:=zQ 2 q6.1;have f6:=bN w6 mb 2 _ _ q6.1;have H6:=Λ XU U0 TO;clear XU PY TO U0 q6)
 have yf:=Qk.o.1.pushL (x:= -1) (v':=σ g6 (I D.last+1) XE) H6.o.1 H6.o.2.1 (by show _=β S.vL\/_;rw[HV.o.2.1];exact H6.o.2.2);have xz:=zh yf.1;have RZ:zH ((ς w6 (mb.p 2) (σ g6 (I D.last+1) XE)).h A #[φ false,ν,ν] 112):=zh ((yf.2.keep A (aA wl.o) (λhm=>by
  rcases Qk.o.2.new A hm with e|e
  . exact HNM.o e
  have:=ve.o;omega)).trans wl.o)
 have ec:=zh (JQ.o.trans yf.2);clear yf H6 c6 f6 e2;generalize w6.setCell (mb.p 2) (σ g6 (I D.last+1) XE)=w7 at xz RZ ec ⊢;obtain⟨_,_,_,e3,_⟩:=xz.o.cells
 replace e3:w7.v mb 3 S.vF:=e3
 rw[HV.o.2.2] at e3;have HL7:zH (w7.r 24 1 (τ aoF (I D.fL) cF) (I D.fL) S.fv):=zh (by rw[<-HV.o.2.2];exact xz.o.fR)
 go_upto_region 13 with (at_builtin;refine bM _ rfl _ _ rfl zd9 (τ aoF (I D.fL) cF) (I D.fL) S.fv zr (by exact aN HL7.o (iM.alloc bR _)) w7.z 1 1 [ν] zr zr (cI _ #[ν] _ _ rfl) zd zd zo zd ?_;intro v8 w8 Vg VL UN;obtain⟨g8,cap8,rfl⟩:=cH Vg;have U1:(κ w7 (Ω #[ν] 24)).grownBy w8 (β S.vF):=(by rw[HV.o.2.2];exact VL);have q8:=zeh xz.o U1 xz.o.a1.2.2;have c8:=zQ 3 q8.1;have f8:=bN w8 mb 3 _ _ q8.1;have H8:=Λ Vg U1 UN;clear Vg VL UN U1 q8)
 have yo:=xz.o.pushF (v':=σ g8 (I D.fL+1) cap8) H8.o.1 H8.o.2.1 (by show _=β S.vF\/_;rw[HV.o.2.2];exact H8.o.2.2);have YL:=zh yo.1;have Lb:zH ((ς w8 (mb.p 3) (σ g8 (I D.fL+1) cap8)).h A #[φ false,ν,ν] 112):=zh ((yo.2.keep A (aA RZ.o) (xz.o.notA RZ.o)).trans RZ.o);have ul:=zh (ec.o.trans yo.2);clear yo H8 c8 f8 e3
 generalize w8.setCell (mb.p 3) (σ g8 (I D.fL+1) cap8)=w9 at YL Lb ul ⊢;have lA9:A<w9.t:=aA Lb.o;have PJ:=Lb.o;have Bi:=aB w9 A 0 (φ false) _ _ _ PJ;have yi:=aB _ A 1 (σ w9.t 1 1) _ _ _ Bi;have An:=aB _ A 2 (σ (w9.t+1) 1 1) _ _ _ yi;have CG:=zh An;obtain⟨x0,y0,x1,y1,x2,y2⟩:=iG PJ (φ false) (σ w9.t 1 1)
 have q0:=sX (o:=0) (o1:=.cells #[ι (I D.rL)] 3) (o2:=.cells #[ι (I D.rL)] 3) PJ;have q1:=sX (o:=1) (o1:=.cells #[ι (I D.rL)] 3) (o2:=.cells #[ι (I D.rL)] 3) Bi;have q2:=sX (o:=2) (o1:=.cells #[ι (I D.rL)] 3) (o2:=.cells #[ι (I D.rL)] 3) yi;clear PJ Bi yi An;go_wp2;clear x0 y0 x1 y1 x2 y2 q0 q1 q2;obtain⟨z0,z1,z2,zk,zb⟩:=jS Lb.o (φ false) (σ w9.t 1 1) (σ (w9.t+1) 1 1)
 generalize hwS:ς (ς (ς w9 A.a (φ false)) (A.p 1) (σ w9.heap.size 1 1)) (A.p 2) (σ (w9.heap.size+1) 1 1)=wS at z0 z1 z2 zk zb CG ⊢;have Hv:wS.heap.size=w9.heap.size:=by rw[<-hwS];simp[World.setCell]
 have IS:wS.u (κ (κ wS (Ω #[ι (I D.rL)] 3)) (Ω #[ι (I D.rL)] 3)):=(Ξ wS _).alloc zs _;have lAS:A<wS.t:=aA CG.o;have u0:=(aG IS A.a lAS).trans z0;have u1:=(aG IS (A.p 1) lAS).trans z1;have u2:=(aG IS (A.p 2) lAS).trans z2
 refine bodyPost_ret (v:=.agg #[φ false,σ w9.t 1 1,σ (w9.t+1) 1 1]) (by simp[results,results33,go_sem,u0,u1,u2]) rfl ?_;clear u0 u1 u2 z0 z1 z2;rw[QM.o];have hz:w.heap.size<=w9.heap.size:=ul.o.size;have hb:Below w.t w9 (κ (κ wS (Ω #[ι (I D.rL)] 3)) (Ω #[ι (I D.rL)] 3)):=(zb.mono (Nat.le_of_eq HW.o)).trans (IS.mono zo);have e1:(κ wS (Ω #[ι (I D.rL)] 3)).heap.size=wS.heap.size+1:=zs
 have VN:=(li_new wS (I D.rL)).below (iM.alloc bR (Ω #[ι (I D.rL)] 3));have Q9:=li_new (κ wS (Ω #[ι (I D.rL)] 3)) (I D.rL);rw[e1] at Q9;rw[Hv] at VN Q9;rw[XC.o] at VN Q9 hb IS ⊢;refine⟨_,_,some w9.z,some ⟨w9.t+1,0,none⟩,1,1,rfl,(YL.o.part Lb.o zk).below IS,zi0 H.o.2.1 HX.o.2.2 HX.o.1 HX.o.2.1,ul.o.later hb,⟨VN,λg hg hm=> ?_⟩,⟨Q9,λg hg hm=> ?_⟩⟩
 . cases hg
   exact Nat.lt_irrefl _ (YL.o.mlt _ hm)
 cases hg
 exact Nat.not_lt.2 (Nat.le_succ _) (YL.o.mlt _ hm)
theorem zaK {mb b:Nat} {S T:MS} {u v:ω} {o:Obj} (h:oN mb S T u v) (hm:¬ Mut mb S b) (hb:u.heap[b]?=some o):v.heap[b]?=some o:=(h.keep b (aA hb) hm).trans hb
structure CSt (B mb:Nat) (N:List Nd) (nl:Value) (S0:MS) (w0:ω) (A dk:Nat) (dr:Value) (d:Nd) (D:MD) (S:MS) (w:ω):Prop where
 m:nZ B mb N nl D S w
 k:oN mb S0 S w0 w
 r:w.h A #[φ false,ν,ν] 112
 n:w.h (A+1) #[ι dk,dr,ι d.a,ι d.b,ι d.n] 192
 a:w0.t<=A
structure PBt (mb:Nat) (S:MS) (w:ω) (P:Nat) (p:lF) (ao al:Option Addr) (co cl:Nat):Prop where
 b:w.h P #[φ p.emp,τ ao (I p.fst) co,τ al (I p.lst) cl] 112
 f:iN mb S w (τ ao (I p.fst) co) p.fst
 l:iN mb S w (τ al (I p.lst) cl) p.lst
section
variable {B mb A dk P Q:Nat} {N:List Nd} {nl dr:Value} {D D':MD} {S0 S T:MS} {w0 w w':ω} {d:Nd} {p:lF} {ao al:Option Addr} {co cl:Nat} {cs:Array Value} {v:Value} {l:ο}
theorem nZ.notT (h:nZ B mb N nl D S w) {b:Nat} (hb:w.h b cs t) (h1:t≠110) (h2:t≠190) (h3:t≠3) (h4:t≠24):¬ Mut mb S b:=λhm=>by
 have key:∀ t' cs2,w.h b cs2 t'->t'=t:=λt' cs2 e=>by
  grind
 rcases hm with rfl|e|e|e
 . exact h1 (key _ _ h.blk).symm
 . obtain⟨c2,e1⟩:=dE h.rR e;grind
 . obtain⟨c2,e1⟩:=dE h.lR e;grind
 obtain⟨c2,e1⟩:=dE h.fR e;grind
theorem CSt.call (h:CSt B mb N nl S0 w0 A dk dr d D S w) (hm:nZ B mb N nl D' T w') (hk:oN mb S T w w'):CSt B mb N nl S0 w0 A dk dr d D' T w':=
 ⟨hm,h.k.trans hk,zaK hk (h.m.notA h.r) h.r,zaK hk (h.m.notT h.n zd zd zd zd) h.n,h.a⟩
theorem CSt.later (h:CSt B mb N nl S0 w0 A dk dr d D S w) (hb:w.u w'):CSt B mb N nl S0 w0 A dk dr d D S w':=
 h.call (h.m.below hb) (oN.of_below hb)
theorem CSt.part (h:CSt B mb N nl S0 w0 A dk dr d D S w) (hP:w.h P cs 112) (hPA:P≠A) (h0:w0.t<=P) (hk:∀ g,g≠P->w'.e w g) (hz:w'.os=w.os/\w'.tape=w.tape/\w'.output=w.output/\w.heap.size<=w'.heap.size):CSt B mb N nl S0 w0 A dk dr d D S w':=
 ⟨h.m.part hP hk,h.k.later ⟨hz.1,hz.2.1,hz.2.2.1,hz.2.2.2,λg hg=>hk g zo⟩,(hk A (λe=>hPA e.symm)).trans h.r,(hk (A+1) (λe=>by
  have:=h.n
  grind)).trans h.n,h.a⟩
theorem PBt.call (h:PBt mb S w P p ao al co cl) (hm:nZ B mb N nl D S w) (hk:oN mb S T w w'):PBt mb T w' P p ao al co cl:=
 ⟨zaK hk (hm.notA h.b) h.b,h.f.keep hk,h.l.keep hk⟩
theorem PBt.later (h:PBt mb S w P p ao al co cl) (hb:w.u w'):PBt mb S w' P p ao al co cl:=
 ⟨(hb.block P (aA h.b)).trans h.b,h.f.keep (oN.of_below hb),h.l.keep (oN.of_below hb)⟩
theorem PBt.part (h:PBt mb S w P p ao al co cl) (hQ:w.h Q cs 112) (hPQ:P≠Q) (hk:∀ g,g≠Q->w'.e w g):PBt mb S w' P p ao al co cl:=
 ⟨(hk P hPQ).trans h.b,h.f.part hQ hk,h.l.part hQ hk⟩
theorem PBt.cells (h:PBt mb S w P p ao al co cl):w.v P 0 (φ p.emp)/\w.v P 1 (τ ao (I p.fst) co)/\w.v P 2 (τ al (I p.lst) cl):=
 ⟨by rw[zQ 0 h.b];rfl,by rw[zQ 1 h.b];rfl,by rw[zQ 2 h.b];rfl⟩
theorem CSt.ncells (h:CSt B mb N nl S0 w0 A dk dr d D S w):w.i (A+1) 0 dk/\w.v (A+1) 1 dr/\w.i (A+1) 2 d.a/\w.i (A+1) 3 d.b/\w.i (A+1) 4 d.n:=
 ⟨by rw[zQ 0 h.n];rfl,by rw[zQ 1 h.n];rfl,by rw[zQ 2 h.n];rfl,by rw[zQ 3 h.n];rfl,by rw[zQ 4 h.n];rfl⟩
theorem nD (h:nZ B mb N nl D S w) (hf:iN mb S w (τ ao (I p.fst) co) p.fst) (hl:iN mb S w (τ al (I p.lst) cl) p.lst):
 PBt mb S (κ w (Ω #[φ p.emp,τ ao (I p.fst) co,τ al (I p.lst) cl] 112)) w.t p ao al co cl:=
 ⟨bA _ _ _ rfl,hf.keep (oN.of_below (Ξ w _)),hl.keep (oN.of_below (Ξ w _))⟩
theorem oG (h:nZ B mb N nl D S w) (hn:sW w.t v (gE l) w w'):iN mb S w' v l:=⟨hn.1,λg hg hm=>by
 have:=hn.2.1 g hg;have:=h.mlt g hm;omega⟩
theorem CSt.fin (h:CSt B mb N nl S0 w0 A dk dr d D S w) {M:Mk} (hr:mV D M) {p:lF} (hf:iN mb S w (τ ao (I p.fst) co) p.fst) (hl:iN mb S w (τ al (I p.lst) cl) p.lst) (hk:∀ g,g≠A->w'.e w g) (hz:Below A w w'):
 uT B mb N nl S0 (p,M) w0 (ρ (.agg #[φ p.emp,τ ao (I p.fst) co,τ al (I p.lst) cl])) w':=
 ⟨D,S,ao,al,co,cl,rfl,h.m.part h.r hk,hr,h.k.later (hz.mono h.a),hf.part h.r hk,hl.part h.r hk⟩
end
theorem make_cat {fa fb:Mk->lF×Mk} (hd:N[k]?=some d) (hk:d.k=2) (jv:xE N nl d.a fa) (ihb:xE N nl d.b fb)
 (JB:∀ M,iJ M->iJ (fa M).2/\eT (fa M).1 (I ((fa M).2.fL))/\I M.fL<=I ((fa M).2.fL))
 (xg:∀ M,iJ M->iJ (fb M).2/\eT (fb M).1 (I ((fb M).2.fL))/\I M.fL<=I ((fb M).2.fL))
 (B mb:Nat) (D:MD) (S:MS) (w:ω) (M:Mk) (h:nZ B mb N nl D S w) (hr:mV D M) (Hq:iJ M) (Qr:D.on=false):
 Γ 33 #[bH mb,ι k] w (uT B mb N nl S (catP (fa M).1 (fb (fa M).2).1,(fb (fa M).2).2.links (fa M).1.lst (fb (fa M).2).1.fst) w):=by
 have Px:=zh Qr;have QA:=zh Hq;obtain⟨YT,Y5,P1⟩:=JB M Hq;obtain⟨pj,Vr,TX⟩:=xg (fa M).2 YT;have Pv:=zh jv;have Lz:=zh ihb;obtain⟨ra,VS⟩:=zE (fa M);rw[<-VS] at YT Y5 P1 pj Vr TX ⊢;obtain⟨rb,Xm⟩:=zE (fb ra.2);rw[<-Xm] at pj Vr TX ⊢;obtain⟨⟨e1,f1,l1⟩,M1⟩:=ra;obtain⟨⟨e2,f2,l2⟩,M2⟩:=rb;dsimp only at*;have VZ:=zh VS;have Ug:=zh Xm;have ko:zH (iJ M1/\eT ⟨e1,f1,l1⟩ (I M1.fL)):=zh ⟨YT,Y5⟩
 have Xa:zH (iJ M2/\eT ⟨e2,f2,l2⟩ (I M2.fL)/\eT ⟨e1,f1,l1⟩ (I M2.fL)):=zh ⟨pj,Vr,Y5.mono TX⟩;clear Hq YT Y5 P1 pj Vr TX JB xg jv ihb VS Xm;obtain⟨c0,c1,c2,c3,c4⟩:=h.cells;rw[Qr] at c4;obtain⟨Vm,cr,x7⟩:=kF (h.nrg d (zM hd)).1;obtain⟨gN,Y1,YS,GT,jn⟩:∃ g c,nl=σ g (I N) c/\k<I N/\g<w.t:=by
  exact zzAT
 have QK:=h.nrow;rw[YS] at QK;obtain⟨d0,d1,d2,d3,d4⟩:=pC N k d hd;have n0:=aJ QK _ _ d0;have n1:=aJ QK _ _ d1;have n2:=aJ QK _ _ d2;have n3:=aJ QK _ _ d3;have n4:=aJ QK _ _ d4;rw[x7] at n1;rw[YS] at c0;rw[hk] at n0;have zk:=zt k (I N)
 have Qa:=zh (zbE w d);rw[x7,hk] at Qa;have H:=Λ h hr hd;have Yv:w.heap.size<w.heap.size+1+1:=zo
 have yh:zH (mb<w.heap.size):=zh h.lt;clear h hr QK x7 YS d0 d1 d2 d3 d4 Qr hd hk;unfold bH;obtain⟨A,hA⟩:∃ A,w.heap.size=A:=⟨_,rfl⟩;rw[hA] at Qa yh jn Yv;have Y6:=yh.o;go_in;go_upto_region 2 with fail
 generalize QG:(κ (κ w (Ω #[φ false,ν,ν] 112)) (Ω #[ι ((2:Nat):Int),τ Vm (I d.rl) cr,ι d.a,ι d.b,ι d.n] 192))=w2 at Qa ⊢;clear QG n0 n1 n2 n3 n4 c0 c1 c2 c3 c4 zk jn;have HW:zH (w.t=A):=zh hA;clear hA Y6 Yv;have yr:zH (nZ B mb N nl D S w2):=zh (H.o.1.below zzBl);obtain⟨_,c1,c2,c3,c4⟩:=yr.o.cells;rw[Px.o] at c4;obtain⟨m0,m1,m2,m3,m4⟩:=Qa.o.ncells
 have lA:A<w2.t:=by rw[Qa.o.s];omega
 have Y6:mb<w2.t:=yr.o.lt;have Y8:zH (CSt B mb N nl S w A 2 (τ Vm (I d.rl) cr) d D S w2):=zh ⟨yr.o,oN.of_below (Qa.o.b.mono (Nat.le_of_eq HW.o)),Qa.o.r,Qa.o.n,Nat.le_of_eq HW.o⟩;have QL:zH (mV D M):=zh H.o.2.1;clear yr H yh HW Qa;have HK:=zh (Pv.o B mb D S w2 M Y8.o.m QL.o QA.o);rw[<-VZ.o] at HK;unfold bH at HK;clear lA Y6;have La:=aA Y8.o.n
 go_upto_region 16 with (go_at_call 33;refine HK.o.mono ?_;rintro e' v3 ⟨D3,S3,QP,xp,yd,YU,rfl,g1,g2,g3,g4,g5⟩;have HG:=Ψ g1 g2 g3 (zAi g4 g5);clear g1 g2 g3 g4 g5)
 have XA:=zh ((Y8.o.call HG.o.1 HG.o.2.2.1).later (Ξ v3 (Ω #[φ e1,τ QP (I f1) yd,τ xp (I l1) YU] 112)));have Qk:=zh (nD (p:=⟨e1,f1,l1⟩) HG.o.1 HG.o.2.2.2.1 HG.o.2.2.2.2);have VA:zH (mV D3 M1):=zh HG.o.2.1;have Us:zH (w.heap.size<=v3.heap.size/\A<v3.t):=zh ⟨zT Y8.o.k.size HG.o.2.2.1.size,zLd (aA Y8.o.r) HG.o.2.2.1.size⟩;clear HG Y8 QL VZ Pv c1 c2 c3 c4 m0 m1 m2 m3 m4 La;dsimp only at Qk
 generalize v3.alloc (Ω #[φ e1,τ QP (I f1) yd,τ xp (I l1) YU] 112)=w4 at XA Qk ⊢;generalize v3.heap.size=P at Qk Us ⊢;obtain⟨m0,m1,m2,m3,m4⟩:=XA.o.ncells;have La:=aA XA.o.n;have HK:=zh (Lz.o B mb D3 S3 w4 M1 XA.o.m VA.o ko.o.1);rw[<-Ug.o] at HK;unfold bH at HK;go_upto_region 17 with (go_at_call 33;refine HK.o.mono ?_;rintro e' v5 ⟨D5,S5,kt,vu,co5,vv,rfl,g1,g2,g3,g4,g5⟩;have HG:=Ψ g1 g2 g3 (zAi g4 g5);clear g1 g2 g3 g4 g5)
 have QT:=Ξ v5 (Ω #[φ e2,τ kt (I f2) co5,τ vu (I l2) vv] 112);have BO:=zh ((XA.o.call HG.o.1 HG.o.2.2.1).later QT);have HQ:=zh (nD (p:=⟨e2,f2,l2⟩) HG.o.1 HG.o.2.2.2.1 HG.o.2.2.2.2);have xz:=zh ((Qk.o.call XA.o.m HG.o.2.2.1).later QT);have vh:zH (mV D5 M2):=zh HG.o.2.1;have dq:zH (P<v5.t):=zh (zLd (aA Qk.o.b) HG.o.2.2.1.size);clear HG XA VA Ug Lz m0 m1 m2 m3 m4 Qk QT La;dsimp only at HQ
 generalize v5.alloc (Ω #[φ e2,τ kt (I f2) co5,τ vu (I l2) vv] 112)=w6 at BO xz HQ ⊢;generalize v5.heap.size=Q at HQ dq ⊢;obtain⟨p0,p1,p2⟩:=xz.o.cells;obtain⟨q0,q1,q2⟩:=HQ.o.cells;dsimp only at p0 p1 p2 q0 q1 q2;have lP:=aA xz.o.b;have lQ:=aA HQ.o.b;have JC:D5.fL=M2.fL:=vh.o.fL
 have HK:=zh (zcq B mb N nl D5 S5 w6 BO.o.m (τ xp (I l1) YU) (τ kt (I f2) co5) l1 f2 xz.o.l HQ.o.f (by rw[JC];exact Xa.o.2.2.l) (by rw[JC];exact Xa.o.2.1.f) (by rw[JC];exact Xa.o.1.f) (by rw[JC];exact Xa.o.1.le) (zT (dD Xa.o.2.2.ln Xa.o.2.2.l) Xa.o.1.le) (zT (dD Xa.o.2.1.fn Xa.o.2.1.f) Xa.o.1.le));unfold bH at HK;clear JC
 go_upto_region 18 with (go_at_call 75;refine HK.o.mono ?_;rintro e' w7 ⟨rfl,fv7,g1,g2⟩;have HG:=Θ g1 g2;clear g1 g2)
 have Yq:=zh (BO.o.call HG.o.1 HG.o.2);have YL:=zh (xz.o.call BO.o.m HG.o.2);have Vz:=zh (HQ.o.call BO.o.m HG.o.2);have JU:zH (mV {D5 with fL:=eZ l1 f2 D5.fL} (M2.links l1 f2)):=zh ⟨vh.o.last,by show eZ l1 f2 D5.fL=eZ l1 f2 M2.fL;rw[vh.o.fL],vh.o.on,vh.o.len,vh.o.cL,vh.o.bd⟩;clear HG BO xz HQ vh p0 p1 p2 q0 q1 q2 lP lQ;generalize ({D5 with fL:=eZ l1 f2 D5.fL}:MD)=D7 at Yq JU;generalize ({S5 with fv:=fv7}:MS)=S7 at Yq YL Vz
 obtain⟨p0,p1,p2⟩:=YL.o.cells;obtain⟨q0,q1,q2⟩:=Vz.o.cells;dsimp only at p0 p1 p2 q0 q1 q2;have lP:=aA YL.o.b;have lQ:=aA Vz.o.b;have lA:=aA Yq.o.r;have Pw:zH (I f1<=65/\I l1<=65/\I f2<=65/\I l2<=65):=zh ⟨zT (dD Xa.o.2.2.fn Xa.o.2.2.f) Xa.o.1.le,zT (dD Xa.o.2.2.ln Xa.o.2.2.l) Xa.o.1.le,zT (dD Xa.o.2.1.fn Xa.o.2.1.f) Xa.o.1.le,zT (dD Xa.o.2.1.ln Xa.o.2.1.l) Xa.o.1.le⟩
 go_cut [9] (λs9 wx=>s9=π w7.t/\wx=κ w7 (Ω #[φ (e1&&e2),τ QP (I f1) yd,τ vu (I l2) vv] 112))
 case first=>
  cases e1
  all_goals
   go_wp2;go_meet;exact⟨rfl,rfl⟩
 case rest=>
 obtain⟨rfl,rfl⟩:=hcut;have Yf:=Ξ w7 (Ω #[φ (e1&&e2),τ QP (I f1) yd,τ vu (I l2) vv] 112);have XX:=zh (Yq.o.later Yf);have XM:=zh (YL.o.later Yf);have xd:=zh (Vz.o.later Yf);have HU:=zh (nD (p:=⟨e1&&e2,f1,l2⟩) Yq.o.m YL.o.f Vz.o.l);have KB:zH (P<w7.t/\Q<w7.t/\A<w7.t/\w.heap.size<=w7.heap.size):=zh ⟨lP,lQ,lA,Yq.o.k.size⟩;clear Yq YL Vz p0 p1 p2 q0 q1 q2 lP lQ lA Yf;dsimp only at HU
 generalize w7.alloc (Ω #[φ (e1&&e2),τ QP (I f1) yd,τ vu (I l2) vv] 112)=w8 at XX XM xd HU ⊢;generalize w7.heap.size=U at HU KB ⊢;obtain⟨p0,p1,p2⟩:=XM.o.cells;obtain⟨q0,q1,q2⟩:=xd.o.cells;obtain⟨u0,u1,u2⟩:=HU.o.cells;dsimp only at p0 p1 p2 q0 q1 q2 u0 u1 u2;have lP:=aA XM.o.b;have lQ:=aA xd.o.b;have lA:=aA XX.o.r;go_upto_if 115 with fail
 go_cut [] (λwx=>∃ f ao co,CSt B mb N nl S w A 2 (τ Vm (I d.rl) cr) d D7 S7 wx/\PBt mb S7 wx P ⟨e1,f1,l1⟩ QP xp yd YU/\PBt mb S7 wx Q ⟨e2,f2,l2⟩ kt vu co5 vv/\PBt mb S7 wx U ⟨e1&&e2,f,l2⟩ ao vu co vv/\f=(if e1=true then dH f1 f2 else f1))
 case first=>
  cases e1 with
  | false=>
   go_wp2;go_meet;exact⟨f1,QP,yd,XX.o,XM.o,xd.o,HU.o,rfl⟩
  | true=>
   have HK:=zh (lX (τ QP (I f1) yd) (τ kt (I f2) co5) (gE f1) (gE f2) w8 XM.o.f.1 xd.o.f.1 zzA5 zzA5);rw[<-mL,bZ] at HK;have ae:∀ (w2:ω),w8.u w2->w2.v U 1 (τ QP (I f1) yd)/\w2.q U 1/\U<w2.t:=λw2 hb=>by
    have h1:=(HU.o.later hb).b;exact⟨by rw[zQ 1 h1];rfl,bN _ _ _ _ _ h1,aA h1⟩
   have Ul:=zh ae;clear ae;obtain⟨J1,TJ⟩:=zE (dH f1 f2);rw[<-TJ] at HK;have ID:=zh TJ;clear TJ;go_wp2_with (first|(go_at_call 34;refine HK.o.mono ?_;rintro e' v8 ⟨Qi,Qj,rfl,hn⟩;have QO:=zh hn;obtain⟨sf1,sf2,sf3⟩:=Ul.o _ hn.2.2;clear hn));clear sf1 sf2 sf3 Ul u0 u1 u2 p0 p1 p2 q0 q1 q2 lP lQ lA;have uh:=zh (XX.o.later QO.o.2.2);have Ub:=zh (XM.o.later QO.o.2.2);have Ue:=zh (xd.o.later QO.o.2.2)
   have TH:=zh (HU.o.later QO.o.2.2);have Cg:iN mb S7 v8 (τ Qi (I J1) Qj) J1:=oG XX.o.m QO.o;have X6:=TH.o.b;have VM:∀ g,g≠U->(ς v8 (U.p 1) (τ Qi (I J1) Qj)).e v8 g:=λg hg=>aD _ _ _ _ hg
   have NW:(ς v8 (U.p 1) (τ Qi (I J1) Qj)).os=v8.os/\(ς v8 (U.p 1) (τ Qi (I J1) Qj)).tape=v8.tape/\(ς v8 (U.p 1) (τ Qi (I J1) Qj)).output=v8.output/\v8.t<=(ς v8 (U.p 1) (τ Qi (I J1) Qj)).heap.size:=⟨rfl,rfl,rfl,zs⟩;have Kt:=zh (uh.o.part X6 (λe=>by have:=KB.o;omega) (by have:=KB.o;omega) VM NW);have j5:=zh (Ub.o.part X6 (λe=>by have:=KB.o;omega) VM)
   have j6:=zh (Ue.o.part X6 (λe=>by have:=KB.o;omega) VM);have Ja:zH (PBt mb S7 (ς v8 (U.p 1) (τ Qi (I J1) Qj)) U ⟨true&&e2,J1,l2⟩ Qi vu Qj vv):=zh ⟨aB _ U 1 _ _ _ _ X6,Cg.part X6 VM,TH.o.l.part X6 VM⟩;clear Cg X6 VM NW uh Ub Ue TH XX XM xd HU QO;go_meet;exact⟨J1,Qi,Qj,Kt.o,j5.o,j6.o,Ja.o,by simpa using ID.o⟩
 case rest=>
 obtain⟨f,ao,co,hC,hP,hQ,hU,hf⟩:=hcut;clear XX XM xd HU p0 p1 p2 q0 q1 q2 u0 u1 u2 lP lQ lA;obtain⟨w8,hw8⟩:=zE (wc);rw[<-hw8] at hC hP hQ hU ⊢;have XX:=zh hC;have XM:=zh hP;have xd:=zh hQ;have HU:=zh hU;have HF:=zh hf;clear hC hP hQ hU hf hw8;obtain⟨p0,p1,p2⟩:=XM.o.cells;obtain⟨q0,q1,q2⟩:=xd.o.cells;obtain⟨u0,u1,u2⟩:=HU.o.cells;dsimp only at p0 p1 p2 q0 q1 q2 u0 u1 u2;have lP:=aA XM.o.b;have lQ:=aA xd.o.b;have lA:=aA XX.o.r
 go_upto_if 123 with fail
 go_cut [] (λwx=>∃ l al cl,CSt B mb N nl S w A 2 (τ Vm (I d.rl) cr) d D7 S7 wx/\PBt mb S7 wx P ⟨e1,f1,l1⟩ QP xp yd YU/\PBt mb S7 wx Q ⟨e2,f2,l2⟩ kt vu co5 vv/\PBt mb S7 wx U ⟨e1&&e2,f,l⟩ ao al co cl/\l=(if e2=true then dH l1 l2 else l2))
 case first=>
  cases e2 with
  | false=>
   go_wp2;go_meet;exact⟨l2,vu,vv,XX.o,XM.o,xd.o,HU.o,rfl⟩
  | true=>
   have HK:=zh (lX (τ xp (I l1) YU) (τ vu (I l2) vv) (gE l1) (gE l2) w8 XM.o.l.1 xd.o.l.1 zzA5 zzA5);rw[<-mL,bZ] at HK;have ae:∀ (w2:ω),w8.u w2->w2.v U 2 (τ vu (I l2) vv)/\w2.q U 2/\U<w2.t:=λw2 hb=>by
    have h1:=(HU.o.later hb).b;exact⟨by rw[zQ 2 h1];rfl,bN _ _ _ _ _ h1,aA h1⟩
   have Ul:=zh ae;clear ae;obtain⟨J2,Bf⟩:=zE (dH l1 l2);rw[<-Bf] at HK;have bh:=zh Bf;clear Bf;go_wp2_with (first|(go_at_call 34;refine HK.o.mono ?_;rintro e' v8 ⟨QB,QC,rfl,hn⟩;have Q4:=zh hn;obtain⟨sf1,sf2,sf3⟩:=Ul.o _ hn.2.2;clear hn));clear sf1 sf2 sf3 Ul u0 u1 u2 p0 p1 p2 q0 q1 q2 lP lQ lA;have ui:=zh (XX.o.later Q4.o.2.2);have Uc:=zh (XM.o.later Q4.o.2.2);have Uf:=zh (xd.o.later Q4.o.2.2)
   have TI:=zh (HU.o.later Q4.o.2.2);have Cg:iN mb S7 v8 (τ QB (I J2) QC) J2:=oG XX.o.m Q4.o;have X6:=TI.o.b;have VM:∀ g,g≠U->(ς v8 (U.p 2) (τ QB (I J2) QC)).e v8 g:=λg hg=>aD _ _ _ _ hg
   have NW:(ς v8 (U.p 2) (τ QB (I J2) QC)).os=v8.os/\(ς v8 (U.p 2) (τ QB (I J2) QC)).tape=v8.tape/\(ς v8 (U.p 2) (τ QB (I J2) QC)).output=v8.output/\v8.t<=(ς v8 (U.p 2) (τ QB (I J2) QC)).heap.size:=⟨rfl,rfl,rfl,zs⟩;have Ku:=zh (ui.o.part X6 (λe=>by have:=KB.o;omega) (by have:=KB.o;omega) VM NW);have Tu:=zh (Uc.o.part X6 (λe=>by have:=KB.o;omega) VM)
   have Tv:=zh (Uf.o.part X6 (λe=>by have:=KB.o;omega) VM);have JX:zH (PBt mb S7 (ς v8 (U.p 2) (τ QB (I J2) QC)) U ⟨e1&&true,f,J2⟩ ao QB co QC):=zh ⟨aB _ U 2 _ _ _ _ X6,TI.o.f.part X6 VM,Cg.part X6 VM⟩;clear Cg X6 VM NW ui Uc Uf TI XX XM xd HU Q4;go_meet;exact⟨J2,QB,QC,Ku.o,Tu.o,Tv.o,JX.o,by simpa using bh.o⟩
 case rest=>
 obtain⟨l,al,cl,hC,hP,hQ,hU,hl⟩:=hcut;clear XX XM xd HU p0 p1 p2 q0 q1 q2 u0 u1 u2 lP lQ lA;obtain⟨w9,RC⟩:=zE (wc);rw[<-RC] at hC hP hQ hU ⊢;have Rc:=zh hC;have HU9:=zh hU;have HL:=zh hl;obtain⟨u0,u1,u2⟩:=hU.cells;dsimp only at u0 u1 u2;have lA:=aA hC.r;clear hC hP hQ hU hl RC;obtain⟨x0,y0,x1,y1,x2,y2⟩:=iG Rc.o.r (φ (e1&&e2)) (τ ao (I f) co);go_wp2;clear x0 y0 x1 y1 x2 y2
 obtain⟨z0,z1,z2,zk,zb⟩:=jS Rc.o.r (φ (e1&&e2)) (τ ao (I f) co) (τ al (I l) cl);refine bodyPost_ret (v:=.agg #[φ (e1&&e2),τ ao (I f) co,τ al (I l) cl]) zzAd rfl ?_;have Hg:=Rc.o.fin JU.o (p:=⟨e1&&e2,f,l⟩) HU9.o.f HU9.o.l zk zb;have hp:(⟨e1&&e2,f,l⟩:lF)=catP ⟨e1,f1,l1⟩ ⟨e2,f2,l2⟩:=by
  rw[HF.o,HL.o];cases e1<;>cases e2<;>rfl
 rw[<-hp];exact Hg
theorem zjf {K:Nat} {fa:Mk->lF×Mk} (hd:N[k]?=some d) (hk:d.k=K) (hK:K=4\/K=5\/K=6) (jv:xE N nl d.a fa)
 (JB:∀ M,iJ M->iJ (fa M).2/\eT (fa M).1 (I ((fa M).2.fL))/\I M.fL<=I ((fa M).2.fL))
 (B mb:Nat) (D:MD) (S:MS) (w:ω) (M:Mk) (h:nZ B mb N nl D S w) (hr:mV D M) (Hq:iJ M) (Qr:D.on=false):
 Γ 33 #[bH mb,ι k] w (uT B mb N nl S (if K=6 then (⟨true,(fa M).1.fst,(fa M).1.lst⟩,(fa M).2) else (⟨(fa M).1.emp||decide (K=4),(fa M).1.fst,(fa M).1.lst⟩,(fa M).2.links (fa M).1.lst (fa M).1.fst)) w):=by
 have Px:=zh Qr;have QA:=zh Hq;obtain⟨YT,Y5,P1⟩:=JB M Hq;have Pv:=zh jv;obtain⟨ra,VS⟩:=zE (fa M);rw[<-VS] at YT Y5 P1 ⊢;obtain⟨⟨e1,f1,l1⟩,M1⟩:=ra;dsimp only at*;have VZ:=zh VS;have ko:zH (iJ M1/\eT ⟨e1,f1,l1⟩ (I M1.fL)):=zh ⟨YT,Y5⟩;clear Hq YT Y5 P1 JB jv VS;obtain⟨c0,c1,c2,c3,c4⟩:=h.cells;rw[Qr] at c4;obtain⟨Vm,cr,x7⟩:=kF (h.nrg d (zM hd)).1
 obtain⟨gN,Y1,YS,GT,jn⟩:∃ g c,nl=σ g (I N) c/\k<I N/\g<w.t:=by
  exact zzAT
 have QK:=h.nrow;rw[YS] at QK;obtain⟨d0,d1,d2,d3,d4⟩:=pC N k d hd;have n0:=aJ QK _ _ d0;have n1:=aJ QK _ _ d1;have n2:=aJ QK _ _ d2;have n3:=aJ QK _ _ d3;have n4:=aJ QK _ _ d4;rw[x7] at n1;rw[YS] at c0;rw[hk] at n0;have zk:=zt k (I N)
 have Qa:=zh (zbE w d);rw[x7,hk] at Qa;have H:=Λ h hr hd;have wI:=zh x7;have Yv:w.heap.size<w.heap.size+1+1:=zo
 have yh:zH (mb<w.heap.size):=zh h.lt;clear h hr QK x7 YS d0 d1 d2 d3 d4 Qr hd hk;unfold bH;obtain⟨A,hA⟩:∃ A,w.heap.size=A:=⟨_,rfl⟩;rw[hA] at Qa yh jn Yv;have Y6:=yh.o;obtain⟨w2,QG⟩:=zE ((κ (κ w (.cells #[φ false,τ none 0 0,τ none 0 0] 112)) (.cells #[ι (K:Nat),τ Vm (I d.rl) cr,ι d.a,ι d.b,ι d.n] 192)));rw[<-QG] at Qa;have HWW:=zh QG;clear QG
 rcases hK with rfl|rfl|rfl
 all_goals
  go_in;go_upto_region 2 with fail
  have QG:=HWW.o;push_cast at QG;rw[<-QG];clear QG;clear HWW n0 n1 n2 n3 n4 c0 c1 c2 c3 c4 zk jn;have HW:zH (w.t=A):=zh hA;clear hA Y6 Yv;have yr:zH (nZ B mb N nl D S w2):=zh (H.o.1.below zzBl);obtain⟨_,c1,c2,c3,c4⟩:=yr.o.cells;rw[Px.o] at c4;obtain⟨m0,m1,m2,m3,m4⟩:=Qa.o.ncells;have lA:A<w2.t:=by rw[Qa.o.s];omega
  have lA1:A+1<w2.t:=by rw[Qa.o.s];omega
  have Y6:mb<w2.t:=yr.o.lt;have Y8:zH (CSt B mb N nl S w A _ (τ Vm (I d.rl) cr) d D S w2):=zh ⟨yr.o,oN.of_below (Qa.o.b.mono (Nat.le_of_eq HW.o)),Qa.o.r,Qa.o.n,Nat.le_of_eq HW.o⟩;have QL:zH (mV D M):=zh H.o.2.1;have HAW:zH (w.t<=A):=zh (Nat.le_of_eq HW.o);clear yr H wI yh HW Qa;have HK:=zh (Pv.o B mb D S w2 M Y8.o.m QL.o QA.o);rw[<-VZ.o] at HK;unfold bH at HK;clear lA lA1 Y6;have lA1:=aA Y8.o.n
 rotate_left 2
 . go_upto_region 35 with (go_at_call 33;refine HK.o.mono ?_;rintro e' v3 ⟨D3,S3,QP,xp,yd,YU,rfl,g1,g2,g3,g4,g5⟩;have HG:=Ψ g1 g2 g3 (zAi g4 g5);clear g1 g2 g3 g4 g5)
   have XA:=zh ((Y8.o.call HG.o.1 HG.o.2.2.1).later (Ξ v3 (Ω #[φ e1,τ QP (I f1) yd,τ xp (I l1) YU] 112)));have Qk:=zh (nD (p:=⟨e1,f1,l1⟩) HG.o.1 HG.o.2.2.2.1 HG.o.2.2.2.2);have VA:zH (mV D3 M1):=zh HG.o.2.1;have Us:zH (w.heap.size<=v3.heap.size/\A<v3.t):=zh ⟨zT Y8.o.k.size HG.o.2.2.1.size,zLd (aA Y8.o.r) HG.o.2.2.1.size⟩;clear HG Y8 QL VZ Pv c1 c2 c3 c4 m0 m1 m2 m3 m4 lA1;dsimp only at Qk
   generalize v3.alloc (Ω #[φ e1,τ QP (I f1) yd,τ xp (I l1) YU] 112)=w4 at XA Qk ⊢;generalize v3.heap.size=P at Qk Us ⊢;obtain⟨m0,m1,m2,m3,m4⟩:=XA.o.ncells;obtain⟨p0,p1,p2⟩:=Qk.o.cells;dsimp only at p0 p1 p2;have lA1:=aA XA.o.n;have lP:=aA Qk.o.b;have lA:=aA XA.o.r;obtain⟨x0,y0,x1,y1,x2,y2⟩:=iG XA.o.r (φ true) (τ QP (I f1) yd);go_wp2_with fail;clear x0 y0 x1 y1 x2 y2
   obtain⟨z0,z1,z2,zk,zb⟩:=jS XA.o.r (φ true) (τ QP (I f1) yd) (τ xp (I l1) YU);refine bodyPost_ret (v:=.agg #[φ true,τ QP (I f1) yd,τ xp (I l1) YU]) zzAd rfl ?_;exact XA.o.fin VA.o (p:=⟨true,f1,l1⟩) Qk.o.f Qk.o.l zk zb
 all_goals
  go_upto_region 31 with (go_at_call 33;refine HK.o.mono ?_;rintro e' v3 ⟨D3,S3,QP,xp,yd,YU,rfl,g1,g2,g3,g4,g5⟩;have HG:=Ψ g1 g2 g3 (zAi g4 g5);clear g1 g2 g3 g4 g5)
  have XA:=zh ((Y8.o.call HG.o.1 HG.o.2.2.1).later (Ξ v3 (Ω #[φ e1,τ QP (I f1) yd,τ xp (I l1) YU] 112)));have Qk:=zh (nD (p:=⟨e1,f1,l1⟩) HG.o.1 HG.o.2.2.2.1 HG.o.2.2.2.2);have VA:zH (mV D3 M1):=zh HG.o.2.1;have Us:zH (w.heap.size<=v3.heap.size/\A<v3.t):=zh ⟨zT Y8.o.k.size HG.o.2.2.1.size,zLd (aA Y8.o.r) HG.o.2.2.1.size⟩;clear HG Y8 QL VZ Pv c1 c2 c3 c4 m0 m1 m2 m3 m4 lA1;dsimp only at Qk
  generalize v3.alloc (Ω #[φ e1,τ QP (I f1) yd,τ xp (I l1) YU] 112)=w4 at XA Qk ⊢;generalize v3.heap.size=P at Qk Us ⊢;obtain⟨m0,m1,m2,m3,m4⟩:=XA.o.ncells;obtain⟨p0,p1,p2⟩:=Qk.o.cells;dsimp only at p0 p1 p2;have lA1:=aA XA.o.n;have lP:=aA Qk.o.b;have JC:D3.fL=M1.fL:=VA.o.fL
  have HK:=zh (zcq B mb N nl D3 S3 w4 XA.o.m (τ xp (I l1) YU) (τ QP (I f1) yd) l1 f1 Qk.o.l Qk.o.f (by rw[JC];exact ko.o.2.l) (by rw[JC];exact ko.o.2.f) (by rw[JC];exact ko.o.1.f) (by rw[JC];exact ko.o.1.le) (zT (dD ko.o.2.ln ko.o.2.l) ko.o.1.le) (zT (dD ko.o.2.fn ko.o.2.f) ko.o.1.le));unfold bH at HK;clear JC
  go_upto_region 32 with (go_at_call 75;refine HK.o.mono ?_;rintro e' w7 ⟨rfl,fv7,g1,g2⟩;have HG:=Θ g1 g2;clear g1 g2)
  have Yq:=zh (XA.o.call HG.o.1 HG.o.2);have YL:=zh (Qk.o.call XA.o.m HG.o.2);have JU:zH (mV {D3 with fL:=eZ l1 f1 D3.fL} (M1.links l1 f1)):=zh ⟨VA.o.last,by show eZ l1 f1 D3.fL=eZ l1 f1 M1.fL;rw[VA.o.fL],VA.o.on,VA.o.len,VA.o.cL,VA.o.bd⟩;clear HG XA Qk VA p0 p1 p2 lP lA1 m0 m1 m2 m3 m4;generalize ({D3 with fL:=eZ l1 f1 D3.fL}:MD)=D7 at Yq JU;generalize ({S3 with fv:=fv7}:MS)=S7 at Yq YL;obtain⟨p0,p1,p2⟩:=YL.o.cells;dsimp only at p0 p1 p2
  obtain⟨m0,m1,m2,m3,m4⟩:=Yq.o.ncells;have lP:=aA YL.o.b;have lA:=aA Yq.o.r;have lA1:=aA Yq.o.n;cases e1
  all_goals first
   | (obtain⟨x0,y0,x1,y1,x2,y2⟩:=iG Yq.o.r (φ true) (τ QP (I f1) yd);go_wp2;clear x0 y0 x1 y1 x2 y2;obtain⟨z0,z1,z2,zk,zb⟩:=jS Yq.o.r (φ true) (τ QP (I f1) yd) (τ xp (I l1) YU);refine bodyPost_ret (v:=.agg #[φ true,τ QP (I f1) yd,τ xp (I l1) YU]) zzAd rfl ?_;exact Yq.o.fin JU.o (p:=⟨true,f1,l1⟩) YL.o.f YL.o.l zk zb)
   | (obtain⟨x0,y0,x1,y1,x2,y2⟩:=iG Yq.o.r (φ false) (τ QP (I f1) yd);go_wp2;clear x0 y0 x1 y1 x2 y2;obtain⟨z0,z1,z2,zk,zb⟩:=jS Yq.o.r (φ false) (τ QP (I f1) yd) (τ xp (I l1) YU);refine bodyPost_ret (v:=.agg #[φ false,τ QP (I f1) yd,τ xp (I l1) YU]) zzAd rfl ?_;exact Yq.o.fin JU.o (p:=⟨false,f1,l1⟩) YL.o.f YL.o.l zk zb)
