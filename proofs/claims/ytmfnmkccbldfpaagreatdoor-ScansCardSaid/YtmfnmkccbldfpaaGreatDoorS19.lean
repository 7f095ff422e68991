/- Part of a proof. No condition. -/
import Derived.StillTailTactics
import Derived.Test.YtmfnmkccbldfpaaGreatDoorS18
set_option linter.unusedVariables false
set_option linter.unusedSimpArgs false
namespace Go.Proofs.YtmfnmkccbldfpaaGreatDoor
open Go.RowKit Go.Lib Tryz
theorem zzC5 {p q:Prop} (k:q) (h:q->p:=by intro zz;show ((((((w.setCell ⟨A,0,none⟩ (aF (w.heap.size+1+1+1))).alloc o1).alloc o2).alloc o3).alloc _)).heap[b]?=_;exact zz):p:=h k
variable {w w':ω} {A bl bm:Nat} {tag He:Nat->Nat} {Hd:ο} {s:bC} {rU:List Int} {fO:List aZ}
theorem zev {P:Program} {t e:TypeId} {size bytes:Nat} {z:Value} (hu:P.underlying t=some (.slice e)) (hi:(P.info? e).map (λi=>(i.zero,i.size,i.bytes))=some (some z,size,bytes)) (hs:size<=1000) (hb:bytes<=1000) (c:Array Value) (hc:madeCells z.cells (1*size)=c) (w:ω):
 (Instr.makeSlice t (ι 1) (ι 1)).run P w=.ok (σ w.t 1 1) (κ w (Ω c e)):=by
 obtain⟨i,h1,h2,h3,h4⟩:=info_parts hi;have:=run_makeSlice w t e i z hu h1 h2 .i64 .i64 1 1 zd zd zg zo zd
 grind
theorem ziI (w:ω):(Instr.makeSlice 156 (ι 1) (ι 1)).run prog w=.ok (σ w.t 1 1) (κ w (Ω #[ν] 240)):=
 zev (z:=ν) (size:=1) (bytes:=24) underlying156 zK zd zd _ zK w
theorem make_set (w:ω):(Instr.makeSlice 157 (ι 1) (ι 1)).run prog w=.ok (σ w.t 1 1) (κ w (Ω #[υ 0,υ 0] 176)):=
 zev (z:=.agg #[υ 0,υ 0]) (size:=2) (bytes:=16) underlying157 zK zd zd _ zK w
theorem make_knot (w:ω):(Instr.makeSlice 161 (ι 1) (ι 1)).run prog w=.ok (σ w.t 1 1) (κ w (Ω #[Φ none] 170)):=
 zev (z:=Φ none) (size:=1) (bytes:=8) underlying161 zK zd zd _ zK w
structure L3 (w wx:ω) (A bl gc gf gr:Nat):Prop where
 ptr:wx.h A #[aF bl] 90
 lay:wx.h bl #[σ gc 1 1,σ gf 1 1,σ gr 1 1] 159
 hc:wx.h gc #[ν] 240
 hf:wx.h gf #[υ 0,υ 0] 176
 hr:wx.h gr #[ι (-1)] 3
 old:∀ b,b<w.heap.size->b≠A->wx.e w b
 new:w.t<=bl/\w.t<=gc/\w.t<=gf/\w.t<=gr
 ne:bl≠gc/\bl≠gf/\bl≠gr/\gc≠gf/\gc≠gr/\gf≠gr
 os:wx.os=w.os
 tape:wx.tape=w.tape
 output:wx.output=w.output
 size:w.heap.size<=wx.heap.size
theorem L3.of {gc gf gr:Nat} {o1 o2 o3:Obj} (hA:w.heap[A]?=some (.cells #[.pointer none] 90 (0,0)))
 (h:((gc=w.heap.size/\o1=.cells #[.slice none 0 0] 240)\/(gc=w.heap.size+1/\o2=.cells #[.slice none 0 0] 240)\/(gc=w.heap.size+1+1/\o3=.cells #[.slice none 0 0] 240))/\
  ((gf=w.heap.size/\o1=.cells #[.int .u64 0,.int .u64 0] 176)\/(gf=w.heap.size+1/\o2=.cells #[.int .u64 0,.int .u64 0] 176)\/(gf=w.heap.size+1+1/\o3=.cells #[.int .u64 0,.int .u64 0] 176))/\
  ((gr=w.heap.size/\o1=.cells #[.int .i64 (-1)] 3)\/(gr=w.heap.size+1/\o2=.cells #[.int .i64 (-1)] 3)\/(gr=w.heap.size+1+1/\o3=.cells #[.int .i64 (-1)] 3))/\gc≠gf/\gc≠gr/\gf≠gr):
 L3 w (((((w.setCell ⟨A,0,none⟩ (aF (w.heap.size+1+1+1))).alloc o1).alloc o2).alloc o3).alloc (.cells #[.slice (some ⟨gc,0,none⟩) 1 1,.slice (some ⟨gf,0,none⟩) 1 1,.slice (some ⟨gr,0,none⟩) 1 1] 159)).drew A (w.heap.size+1+1+1) gc gf gr:=by
 have lA:=aA hA;obtain⟨h1,h2,h3,h4⟩:=h;have k0:∀ b,b<w.heap.size->(((((w.setCell ⟨A,0,none⟩ (aF (w.heap.size+1+1+1))).alloc o1).alloc o2).alloc o3).alloc (.cells #[.slice (some ⟨gc,0,none⟩) 1 1,.slice (some ⟨gf,0,none⟩) 1 1,.slice (some ⟨gr,0,none⟩) 1 1] 159)).drew.heap[b]?=(w.setCell ⟨A,0,none⟩ (aF (w.heap.size+1+1+1))).heap[b]?:=by
  intro b hb;refine zzC5 ?_;rw[aV,zN zx,aV,zN zx,aV,zN zx,aV,zN zx]
 have:∀ b,(((((w.setCell ⟨A,0,none⟩ (aF (w.heap.size+1+1+1))).alloc o1).alloc o2).alloc o3).alloc (.cells #[.slice (some ⟨gc,0,none⟩) 1 1,.slice (some ⟨gf,0,none⟩) 1 1,.slice (some ⟨gr,0,none⟩) 1 1] 159)).drew.heap[b]?=
  if b=w.heap.size+1+1+1 then some (.cells #[.slice (some ⟨gc,0,none⟩) 1 1,.slice (some ⟨gf,0,none⟩) 1 1,.slice (some ⟨gr,0,none⟩) 1 1] 159) else if b=w.heap.size+1+1 then some o3 else if b=w.heap.size+1 then some o2 else if b=w.heap.size then some o1 else (w.setCell ⟨A,0,none⟩ (aF (w.heap.size+1+1+1))).heap[b]?:=by
  intro b;refine zzC5 ?_;simp[aV]
 have obj:∀ {g:Nat} {O:Obj},((g=w.heap.size/\o1=O)\/(g=w.heap.size+1/\o2=O)\/(g=w.heap.size+1+1/\o3=O))->(((((w.setCell ⟨A,0,none⟩ (aF (w.heap.size+1+1+1))).alloc o1).alloc o2).alloc o3).alloc (.cells #[.slice (some ⟨gc,0,none⟩) 1 1,.slice (some ⟨gf,0,none⟩) 1 1,.slice (some ⟨gr,0,none⟩) 1 1] 159)).drew.heap[g]?=some O:=by
  rintro g O (⟨rfl,rfl⟩|⟨rfl,rfl⟩|⟨rfl,rfl⟩)
  . grind
  . grind
  grind
 refine⟨?_,?_,obj h1,obj h2,obj h3,λb hb hn=> ?_,zo,zo,rfl,rfl,rfl,?_⟩
 . rw[k0 A lA,aB w A 0 _ _ _ _ hA];rfl
 . grind
 . grind [aD]
 show w.heap.size<=((((((w.setCell ⟨A,0,none⟩ (aF (w.heap.size+1+1+1))).alloc o1).alloc o2).alloc o3).alloc _)).heap.size
 simp;omega
def tagL (bl gc gf gr n b:Nat):Nat:=if b=bl then 1 else if b=gc then 3 else if b=gf then 6 else if b=gr then 4 else if b=n then 5 else if b=n+1 then 2 else 0
structure L4 (w wx:ω) (A bl bm:Nat) (tag:Nat->Nat):Prop where
 lay:jC wx tag bl bm [] kW [-1] [(0,0)]
 upd:eA (λ_=>0) tag w wx
 ptr:wx.h A #[aF bl] 90/\tag A=0
 err:wx.h (A+1) #[.nilIface] 51/\tag (A+1)=0
 aQ:(∃ x,wx.h (A+1+1) #[ι x] 3)/\tag (A+1+1)=0
theorem L4.of {w1 wc:ω} {gc gf gr:Nat} (hb:w.u w1) (hA:A=w.t) (hz:w1.t=A+3) (hB:w1.h (A+1) #[.nilIface] 51) (hC:w1.h (A+1+1) #[ι 0] 3) (h:L3 w1 wc A bl gc gf gr):
 ∃ tag,L4 w (κ (κ wc (Ω #[Φ none] 170)) (Ω #[aF bl,σ wc.t 1 1] 163)).drew A bl (wc.t+1) tag:=by
 have hl:=aA h.lay;have hgc:=aA h.hc;have SD:=aA h.hf;have Qm:=aA h.hr;have:=h.size;obtain⟨n1,n2,n3,n4⟩:=h.new;obtain⟨e1,e2,e3,e4,e5,e6⟩:=h.ne;have k:∀ b,b<wc.heap.size->(κ (κ wc (Ω #[Φ none] 170)) (Ω #[aF bl,σ wc.t 1 1] 163)).drew.e wc b:=by
  intro b hb;show (κ (κ wc (Ω #[Φ none] 170)) _).heap[b]?=_;rw[aV,zN zx,aV,zN zo]
 have k5:(κ (κ wc (Ω #[Φ none] 170)) (Ω #[aF bl,σ wc.t 1 1] 163)).drew.h wc.t #[Φ none] 170:=by
  show (κ (κ wc (Ω #[Φ none] 170)) _).heap[wc.heap.size]?=_;rw[aV,zN zs,aV,zP rfl]
 have km:(κ (κ wc (Ω #[Φ none] 170)) (Ω #[aF bl,σ wc.t 1 1] 163)).drew.h (wc.t+1) #[aF bl,σ wc.t 1 1] 163:=by
  show (κ (κ wc (Ω #[Φ none] 170)) _).heap[wc.heap.size+1]?=_;rw[aV,zP zs]
 have YR:(1:Nat)<=maxLen:=zd
 refine⟨tagL bl gc gf gr wc.t,
  ⟨[],σ gc 1 1,σ gf 1 1,σ gr 1 1,σ wc.t 1 1,[ν],[Φ none],?_,?_⟩,?_,⟨?_,?_⟩,⟨?_,?_⟩,⟨⟨0,?_⟩,?_⟩⟩
 . exact⟨rfl,rfl,λi hi=>absurd hi (by simp[kW]),λi hi=>absurd hi (by simp[kW]),λi hi=>absurd hi (by simp[kW]),λi g hi=>absurd hi (by simp[kW]),λi j hi=>absurd hi (by simp[kW])⟩
 . refine⟨(k bl hl).trans h.lay,km,by unfold tagL;simp,?_,⟨rfl,.inr ⟨gc,1,#[ν],rfl,rC,(k gc hgc).trans h.hc,bR,YR,rfl,rfl⟩⟩,?_,⟨rfl,.inr ⟨gr,1,#[ι (-1)],rfl,rC,(k gr Qm).trans h.hr,bR,YR,rfl,rfl⟩⟩,
    ⟨rfl,.inr ⟨gf,1,#[υ 0,υ 0],rfl,rC,(k gf SD).trans h.hf,bR,YR,rfl,rfl⟩⟩,⟨rfl,.inr ⟨wc.t,1,#[Φ none],rfl,rC,k5,bR,YR,rfl,rfl⟩⟩,?_,?_,?_,?_,?_⟩
   . grind [tagL]
   . intro i c hc
     cases i with
     | zero=>
      cases hc;exact⟨_,rfl,qD _ _ _,λg hg=>by cases hg⟩
     | succ i=>simp[kW] at hc
   . grind [kW]
   . intro g hg
     have QY:g=gc:=by cases hg;rfl
     grind [tagL]
   . intro g hg
     have QY:g=gr:=by cases hg;rfl
     grind [tagL]
   . intro g hg
     have QY:g=wc.t:=by cases hg;rfl
     grind [tagL]
   intro g hg
   have QY:g=gf:=by cases hg;rfl
   grind [tagL]
 . refine⟨h.os.trans hb.os,h.tape.trans hb.tape,h.output.trans hb.output,?_,λb Hf=> ?_,λb Hf _=> ?_⟩
   . grind
   . grind [tagL]
   rw[k b zo,h.old b zo zo];exact hb.block b Hf
 . exact (k A zo).trans h.ptr
 . grind [tagL]
 . exact (k (A+1) zo).trans ((h.old _ zo zo).trans hB)
 . grind [tagL]
 . exact (k (A+1+1) zo).trans ((h.old _ zo zo).trans hC)
 grind [tagL]
theorem jC.tree (h:jC w tag bl bm Hd s rU fO) (hb:w.u w'):jC w' (λb=>if b<w.t then tag b else 7) bl bm Hd s rU fO:=by
 obtain⟨vs,vc,vf,vr,vb,Ql,QN,hK,hM⟩:=h;have ht:∀ b,b<w.heap.size->(λb=>if b<w.heap.size then tag b else 7) b=tag b:=λb hb=>zP hb;exact⟨vs,vc,vf,vr,vb,Ql,QN,hK.apart ht λb Qy _=>hb.block b Qy,hM.keep1 (λb Qy _ _=>hb.block b Qy) ht⟩
theorem eA.below (hb:w.u w') (ht:∀ b,b<w.heap.size->He b=tag b):eA tag He w w':=⟨hb.os,hb.tape,hb.output,hb.size,ht,λb Qy _=>hb.block b Qy⟩
theorem jC.set0 (h:jC w tag bl bm Hd s rU fO) (c:Nat) (hc:tag c=0) (v:Value):jC (ς w c.a v) tag bl bm Hd s rU fO:=by
 obtain⟨vs,vc,vf,vr,vb,Ql,QN,hK,hM⟩:=h;have k:∀ b,tag b≠0->(ς w c.a v).e w b:=λb hb=>aD _ _ _ _ (λe=>hb zg);exact⟨vs,vc,vf,vr,vb,Ql,QN,hK.apart (λ_ _=>rfl) λb _ hb=>k b zo,hM.keep1 (λb _ h1 _=>k b zo) (λ_ _=>rfl)⟩
theorem eA.from0 {w1:ω} (h:eA (λ_=>0) tag w w1) (c:Nat) (hc:w.t<=c) (v:Value) (o:Nat):eA (λ_=>0) tag w (ς w1 (c.p o) v):=
 ⟨h.os,h.tape,h.output,by simpa using h.size,h.tags,λb hb ht=>(aD _ _ _ _ (λe=>zg)).trans (h.keep b hb ht)⟩
theorem altP_fuel {s:η} {t:aL} (h:iE s=.ok t) (h0:s.size<=60):nI s (4*s.size+10) 0 0≠ .error (0,0):=by
 grind [iE]
theorem or_ok {s o:aZ} (hs:s.Ok) (ho:o.Ok):(s.or o).Ok:=⟨Nat.or_lt_two_pow (n:=64) hs.1 ho.1,Nat.or_lt_two_pow (n:=64) hs.2 ho.2⟩
mutual
theorem aW.lt {S:Nat->Prop} :∀ (t:aL) (v:Value),aW S w t v->aW (λg=>S g/\g<w.t) w t v
 | .cL l,v,hv=>by
  exact zzCM
 | .row l,v,hv=>by
  simp only[aW] at hv ⊢;obtain⟨sl,vs,h1,h2,h3,h4⟩:=hv;exact⟨sl,vs,h1,h2,λg hg=>⟨h3 g hg,(h2.lt g hg).2⟩,cM.lt l vs h4⟩
 | .either a b,v,hv=>by
  simp only[aW] at hv ⊢;obtain⟨va,vb,h1,h2,h3⟩:=hv;exact⟨va,vb,h1,aW.lt a va h2,aW.lt b vb h3⟩
 | .rep t m o,v,hv=>by
  simp only[aW] at hv ⊢;obtain⟨vt,h1,h2⟩:=hv;exact⟨vt,h1,aW.lt t vt h2⟩
theorem cM.lt {S:Nat->Prop} :∀ (l:List aL) (vs:ζ),cM S w l vs->cM (λg=>S g/\g<w.t) w l vs
 | [],vs,h=>by assumption
 | t::l,vs,h=>by
  simp only[cM] at h ⊢;obtain⟨v,r,h1,h2,h3⟩:=h;exact⟨v,r,h1,aW.lt t v h2,cM.lt l r h3⟩
end
theorem jC.fI (h:jC w tag bl bm Hd s rU fO) (p:Nat) (hp:p<I s.kN):
 jC (ς w ((χ Hd p 0).p 2) (φ true)) tag bl bm Hd (s.fI p) rU fO/\eA tag tag w (ς w ((χ Hd p 0).p 2) (φ true)):=by
 obtain⟨vs,vc,vf,vr,vb,Ql,QN,hK,hM⟩:=h;have hu:=uQ.atKnot hK p hp 2 (φ true);exact⟨⟨vs,vc,vf,vr,vb,Ql,QN,hK.fI p hp,hM.keep1 (λb hb _ h7=>hu.keep b hb zo) (λ_ _=>rfl)⟩,eA.of_k hu⟩
theorem eA.of_d (h:sP tag He w w'):eA tag He w w':=⟨h.os,h.tape,h.output,h.size,h.tags,λb hb ht=>h.keep b hb zo⟩
structure Own (w:ω) (A bl:Nat) (tag:Nat->Nat) (wr:ω):Prop where
 upd:eA (λ_=>0) tag w wr
 ptr:wr.h A #[aF bl] 90/\tag A=0
 err:wr.h (A+1) #[.nilIface] 51/\tag (A+1)=0
 aQ:(∃ x,wr.h (A+1+1) #[ι x] 3)/\tag (A+1+1)=0
theorem Own.next {wr wx:ω} (h:Own w A bl tag wr) (hu:eA tag He wr wx):Own w A bl He wx:=by
 obtain⟨⟨x,hx⟩,ht⟩:=h.aQ;refine⟨h.upd.trans hu,⟨?_,?_⟩,⟨?_,?_⟩,⟨⟨x,?_⟩,?_⟩⟩
 . exact (hu.keep _ (aA h.ptr.1) (.inl h.ptr.2)).trans h.ptr.1
 . exact (hu.tags _ (aA h.ptr.1)).trans h.ptr.2
 . exact (hu.keep _ (aA h.err.1) (.inl h.err.2)).trans h.err.1
 . exact (hu.tags _ (aA h.err.1)).trans h.err.2
 . exact (hu.keep _ (aA hx) (.inl ht)).trans hx
 exact (hu.tags _ (aA hx)).trans ht
theorem Own.set {wr:ω} (h:Own w A bl tag wr) (hA:w.t<=A) (z:Int):Own w A bl tag (ς wr (A+1+1).a (ι z)):=by
 obtain⟨⟨x,hx⟩,ht⟩:=h.aQ;refine⟨h.upd.from0 _ zo _ _,⟨(aD _ _ _ _ zg).trans h.ptr.1,h.ptr.2⟩,⟨(aD _ _ _ _ zs).trans h.err.1,h.err.2⟩,⟨⟨z,?_⟩,ht⟩⟩;rw[aB _ (A+1+1) 0 _ _ _ _ hx];rfl
theorem aG {B:Nat} {a b:ω} (hb:Below B a b) (x:Addr) (hx:x.block<B):b.cell? x=a.cell? x:=by
 unfold World.cell?;rw[hb.block _ hx]
theorem jC.first {w2:ω} {vs:ζ} {vc vf vr vb:Value} {Ql QN:ζ} (hK:sU w tag Hd vs s.kN (λ_=>false))
 (hM:uS w tag bl bm s.cL rU fO Hd s.bE vc vf vr vb Ql QN) (hb:w.u w2) (g cap:Nat) (hv:vf=σ g (I fO) cap) (f0:aZ) (fr:List aZ) (hf:fO=f0::fr) (x:aZ):
 jC (ς (ς w2 g.a (υ x.1)) (g.p 1) (υ x.2)) tag bl bm Hd s rU (x::fr)/\eA tag tag w (ς (ς w2 g.a (υ x.1)) (g.p 1) (υ x.2)):=by
 have:tag g=6:=hM.t6 g (by rw[hv];rfl);have k:∀ b,b<w.heap.size->b≠g->(ς (ς w2 g.a (υ x.1)) (g.p 1) (υ x.2)).e w b:=λb Qy hn=>by
  rw[aD _ _ _ _ hn,aD _ _ _ _ hn];exact hb.block b Qy
 have h2:=(hM.keep1 (λb Qy _ _=>hb.block b Qy) (λ_ _=>rfl)).setFirst g cap hv f0 fr hf x;refine⟨⟨vs,vc,vf,vr,vb,Ql,QN,hK.apart (λ_ _=>rfl) (λb Qy ht=>k b Qy (λe=>zg)),h2⟩,⟨hb.os,hb.tape,hb.output,by simpa using hb.size,λ_ _=>rfl,λb Qy ht=>k b Qy (λe=>zg)⟩⟩
structure InSt (G:List cK) (f i:Nat) (sf:bC) (L3:iT) (w:ω) (A bl bm:Nat) (Hd:ο) (n:Nat) (L:iT) (tag:Nat->Nat) (wr:ω):Prop where
 lay:jC wr tag bl bm Hd sf (L.rU++ψ (I sf.cL-n) (-1)) L.fO
 own:Own w A bl tag wr
 rest:gB G f i (sf.bE.drop n) L=some L3
 lr:I L.rU=n
 lf:I L.fO=n
 fok:∀ x∈L.fO,x.Ok
 cL:L.cL=sf.cL
theorem kP.lupd {c b:Nat} (h:kP tag He c b w w') (hc:c≠0/\c≠7) (hb:tag b≠0/\tag b≠7):eA tag He w w':=eA.of_a h hc hb
theorem set_mid (r:List Int) (k:Nat) (x:Int):(r++ψ (k+1) (-1:Int)).set (I r) x=r++[x]++ψ k (-1):=by
 grind
theorem keep_mid (r:List Int) (k:Nat):r++ψ (k+1) (-1:Int)=r++[-1]++ψ k (-1):=by
 grind
def xD (w:ω) (bl:Nat) (L:iT):Prop:=∃ vc vf vr Ql,w.h bl #[vc,vf,vr] 159/\w.r 240 1 vc (I L.cL) Ql/\
 (∀ (i:Nat) (c:θ),L.cL[i]?=some c->∃ cv,Ql[i]?=some cv/\gV w cv c)/\w.r 3 1 vr (I L.rU) (L.rU.map (Value.int .i64))/\w.r 176 2 vf (I L.fO) (setCells L.fO)
theorem xD.ext {L:iT} (h:xD w bl L) (hx:∀ b,b<w.heap.size->w'.e w b):xD w' bl L:=by
 obtain⟨vc,vf,vr,Ql,h1,h2,h3,h4,h5⟩:=h;refine⟨vc,vf,vr,Ql,(hx bl (aA h1)).trans h1,aU h2 λg hg=>hx g (h2.lt g hg).2,λi c hc=> ?_,aU h4 λg hg=>hx g (h4.lt g hg).2,aU h5 λg hg=>hx g (h5.lt g hg).2⟩;obtain⟨cv,k1,k2⟩:=h3 i c hc;exact⟨cv,k1,aU k2 λg hg=>hx g (k2.lt g hg).2⟩
theorem zhD (a b c:Addr) (w:ω):
 CallsD prog 60 #[Φ (some a),Φ (some b),Φ (some c)] .returning w λe u' w'=>e=ρ (ϕ #[])/\u'=.returning/\w'=w:=by
 refine callsD_of_wpS func60 rfl λc₀ cs hu=> ?_;apply wpS_seq;apply wpS_region;generalize hQ:Exit.thenS _ _=Q;simp[wpOpsS,go_sem,recoverD,hu,ntmps60];subst hQ;simp only[Exit.thenS];refine wpS_of_wp (wp_mono (Q:=λen a' w'=>en=.normal/\a'.defers=[]/\w'=w) ?_ ?_)
 . change Code.wp _ _ _ {tmps:=#[Φ (some a),Φ (some b),Φ (some c),undef,undef,undef,.nilIface,undef,undef,undef,undef,undef,undef,undef,undef,undef,undef],defers:=[]} w
   go_wp2
   all_goals trivial
 rintro e a' w' ⟨rfl,hd,rfl⟩
 cases c₀;simp_all[bodyPostS,results,results60]
