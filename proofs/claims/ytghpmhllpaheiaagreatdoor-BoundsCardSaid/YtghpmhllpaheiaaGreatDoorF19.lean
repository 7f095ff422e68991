/- Part of a proof. No condition. -/
import Derived.StillTailTactics
import Derived.Test.YtghpmhllpaheiaaGreatDoorF18
set_option linter.unusedVariables false
set_option linter.unusedSimpArgs false
namespace Go.Proofs.YtghpmhllpaheiaaGreatDoor
open Go.RowKit Go.Lib
variable {w w':World} {A bl bm:Nat} {tag Hd:Nat->Nat} {Hc:List Nat} {s:bA} {rU:List Int} {fO:List aW}
theorem zcf {P:Program} {t e:TypeId} {size bytes:Nat} {z:Value} (hu:P.underlying t=some (.slice e)) (hi:(P.info? e).map (λi=>(i.zero,i.size,i.bytes))=some (some z,size,bytes)) (hs:size<=1000) (hb:bytes<=1000) (c:Array Value) (hc:madeCells z.cells (1*size)=c) (w:World):
 (Instr.makeSlice t (.int .i64 1) (.int .i64 1)).run P w=.ok (.slice (some ⟨w.heap.size,0,none⟩) 1 1) (w.alloc (.cells c e)):=by
 obtain⟨i,h1,h2,h3,h4⟩:=info_parts hi;have h:=run_makeSlice w t e i z hu h1 h2 .i64 .i64 1 1 (by decide) (by decide) (by rw[h3];simp;omega) (by rw[h4];omega) (by decide);rw[h,h3,<-hc];rfl
theorem zfD (w:World):(Instr.makeSlice 129 (.int .i64 1) (.int .i64 1)).run Tryz.prog w=.ok (.slice (some ⟨w.heap.size,0,none⟩) 1 1) (w.alloc (.cells #[.slice none 0 0] 200)):=
 zcf (z:=.slice none 0 0) (size:=1) (bytes:=24) Tryz.underlying129 (by kernel_rfl) (by decide) (by decide) _ (by kernel_rfl) w
theorem make_set (w:World):(Instr.makeSlice 130 (.int .i64 1) (.int .i64 1)).run Tryz.prog w=.ok (.slice (some ⟨w.heap.size,0,none⟩) 1 1) (w.alloc (.cells #[.int .u64 0,.int .u64 0] 147)):=
 zcf (z:=.agg #[.int .u64 0,.int .u64 0]) (size:=2) (bytes:=16) Tryz.underlying130 (by kernel_rfl) (by decide) (by decide) _ (by kernel_rfl) w
theorem make_knot (w:World):(Instr.makeSlice 134 (.int .i64 1) (.int .i64 1)).run Tryz.prog w=.ok (.slice (some ⟨w.heap.size,0,none⟩) 1 1) (w.alloc (.cells #[.pointer none] 141)):=
 zcf (z:=.pointer none) (size:=1) (bytes:=8) Tryz.underlying134 (by kernel_rfl) (by decide) (by decide) _ (by kernel_rfl) w
structure L3 (w wx:World) (A bl gc gf gr:Nat):Prop where
 ptr:wx.heap[A]?=some (.cells #[aK bl] 88 (0,0))
 lay:wx.heap[bl]?=some (.cells #[.slice (some ⟨gc,0,none⟩) 1 1,.slice (some ⟨gf,0,none⟩) 1 1,.slice (some ⟨gr,0,none⟩) 1 1] 132 (0,0))
 hc:wx.heap[gc]?=some (.cells #[.slice none 0 0] 200 (0,0))
 hf:wx.heap[gf]?=some (.cells #[.int .u64 0,.int .u64 0] 147 (0,0))
 hr:wx.heap[gr]?=some (.cells #[.int .i64 (-1)] 3 (0,0))
 old:∀ b,b<w.heap.size->b≠A->wx.heap[b]?=w.heap[b]?
 new:w.heap.size<=bl/\w.heap.size<=gc/\w.heap.size<=gf/\w.heap.size<=gr
 ne:bl≠gc/\bl≠gf/\bl≠gr/\gc≠gf/\gc≠gr/\gf≠gr
 os:wx.os=w.os
 tape:wx.tape=w.tape
 output:wx.output=w.output
 size:w.heap.size<=wx.heap.size
theorem L3.of {gc gf gr:Nat} {o1 o2 o3:Obj} (hA:w.heap[A]?=some (.cells #[.pointer none] 88 (0,0)))
 (h:((gc=w.heap.size/\o1=.cells #[.slice none 0 0] 200)\/(gc=w.heap.size+1/\o2=.cells #[.slice none 0 0] 200)\/(gc=w.heap.size+1+1/\o3=.cells #[.slice none 0 0] 200))/\
  ((gf=w.heap.size/\o1=.cells #[.int .u64 0,.int .u64 0] 147)\/(gf=w.heap.size+1/\o2=.cells #[.int .u64 0,.int .u64 0] 147)\/(gf=w.heap.size+1+1/\o3=.cells #[.int .u64 0,.int .u64 0] 147))/\
  ((gr=w.heap.size/\o1=.cells #[.int .i64 (-1)] 3)\/(gr=w.heap.size+1/\o2=.cells #[.int .i64 (-1)] 3)\/(gr=w.heap.size+1+1/\o3=.cells #[.int .i64 (-1)] 3))/\gc≠gf/\gc≠gr/\gf≠gr):
 L3 w (((((w.setCell ⟨A,0,none⟩ (aK (w.heap.size+1+1+1))).alloc o1).alloc o2).alloc o3).alloc (.cells #[.slice (some ⟨gc,0,none⟩) 1 1,.slice (some ⟨gf,0,none⟩) 1 1,.slice (some ⟨gr,0,none⟩) 1 1] 132)).drew A (w.heap.size+1+1+1) gc gf gr:=by
 have lA:=aA hA;obtain⟨h1,h2,h3,h4⟩:=h;have k0:∀ b,b<w.heap.size->(((((w.setCell ⟨A,0,none⟩ (aK (w.heap.size+1+1+1))).alloc o1).alloc o2).alloc o3).alloc (.cells #[.slice (some ⟨gc,0,none⟩) 1 1,.slice (some ⟨gf,0,none⟩) 1 1,.slice (some ⟨gr,0,none⟩) 1 1] 132)).drew.heap[b]?=(w.setCell ⟨A,0,none⟩ (aK (w.heap.size+1+1+1))).heap[b]?:=by
  intro b hb;show ((((((w.setCell ⟨A,0,none⟩ (aK (w.heap.size+1+1+1))).alloc o1).alloc o2).alloc o3).alloc _)).heap[b]?=_;rw[aN,zN (by simp;omega),aN,zN (by simp;omega),aN,zN (by simp;omega),aN,zN (by simp;omega)]
 have kn:∀ b,(((((w.setCell ⟨A,0,none⟩ (aK (w.heap.size+1+1+1))).alloc o1).alloc o2).alloc o3).alloc (.cells #[.slice (some ⟨gc,0,none⟩) 1 1,.slice (some ⟨gf,0,none⟩) 1 1,.slice (some ⟨gr,0,none⟩) 1 1] 132)).drew.heap[b]?=
  if b=w.heap.size+1+1+1 then some (.cells #[.slice (some ⟨gc,0,none⟩) 1 1,.slice (some ⟨gf,0,none⟩) 1 1,.slice (some ⟨gr,0,none⟩) 1 1] 132) else if b=w.heap.size+1+1 then some o3 else if b=w.heap.size+1 then some o2 else if b=w.heap.size then some o1 else (w.setCell ⟨A,0,none⟩ (aK (w.heap.size+1+1+1))).heap[b]?:=by
  intro b;show ((((((w.setCell ⟨A,0,none⟩ (aK (w.heap.size+1+1+1))).alloc o1).alloc o2).alloc o3).alloc _)).heap[b]?=_;simp[aN]
 have obj:∀ {g:Nat} {O:Obj},((g=w.heap.size/\o1=O)\/(g=w.heap.size+1/\o2=O)\/(g=w.heap.size+1+1/\o3=O))->(((((w.setCell ⟨A,0,none⟩ (aK (w.heap.size+1+1+1))).alloc o1).alloc o2).alloc o3).alloc (.cells #[.slice (some ⟨gc,0,none⟩) 1 1,.slice (some ⟨gf,0,none⟩) 1 1,.slice (some ⟨gr,0,none⟩) 1 1] 132)).drew.heap[g]?=some O:=by
  rintro g O (⟨rfl,rfl⟩|⟨rfl,rfl⟩|⟨rfl,rfl⟩)
  . rw[kn,zN (by omega),zN (by omega),zN (by omega),zP rfl]
  . rw[kn,zN (by omega),zN (by omega),zP rfl]
  rw[kn,zN (by omega),zP rfl]
 refine⟨?_,?_,obj h1,obj h2,obj h3,λb hb hn=> ?_,by omega,by omega,rfl,rfl,rfl,?_⟩
 . rw[k0 A lA,aC w A 0 _ _ _ _ hA];rfl
 . rw[kn,zP rfl]
 . rw[k0 b hb,aG _ _ _ _ hn]
 show w.heap.size<=((((((w.setCell ⟨A,0,none⟩ (aK (w.heap.size+1+1+1))).alloc o1).alloc o2).alloc o3).alloc _)).heap.size
 simp;omega
def xB (bl gc gf gr n b:Nat):Nat:=if b=bl then 1 else if b=gc then 3 else if b=gf then 6 else if b=gr then 4 else if b=n then 5 else if b=n+1 then 2 else 0
structure L4 (w wx:World) (A bl bm:Nat) (tag:Nat->Nat):Prop where
 lay:gZ wx tag bl bm [] jF [-1] [(0,0)]
 upd:dL (λ_=>0) tag w wx
 ptr:wx.heap[A]?=some (.cells #[aK bl] 88 (0,0))/\tag A=0
 err:wx.heap[A+1]?=some (.cells #[.nilIface] 34 (0,0))/\tag (A+1)=0
 aQ:(∃ x,wx.heap[A+1+1]?=some (.cells #[.int .i64 x] 3 (0,0)))/\tag (A+1+1)=0
theorem L4.of {w1 wc:World} {gc gf gr:Nat} (hb:Below w.heap.size w w1) (hA:A=w.heap.size) (hz:w1.heap.size=A+3) (hB:w1.heap[A+1]?=some (.cells #[.nilIface] 34 (0,0))) (hC:w1.heap[A+1+1]?=some (.cells #[.int .i64 0] 3 (0,0))) (h:L3 w1 wc A bl gc gf gr):
 ∃ tag,L4 w ((wc.alloc (.cells #[.pointer none] 141)).alloc (.cells #[aK bl,.slice (some ⟨wc.heap.size,0,none⟩) 1 1] 136)).drew A bl (wc.heap.size+1) tag:=by
 have hl:=aA h.lay;have Zk:=aA h.hc;have Lb:=aA h.hf;have QJ:=aA h.hr;have Qc:=h.size;obtain⟨n1,n2,n3,n4⟩:=h.new;obtain⟨e1,e2,e3,e4,e5,e6⟩:=h.ne;have k:∀ b,b<wc.heap.size->((wc.alloc (.cells #[.pointer none] 141)).alloc (.cells #[aK bl,.slice (some ⟨wc.heap.size,0,none⟩) 1 1] 136)).drew.heap[b]?=wc.heap[b]?:=by
  intro b hb;show ((wc.alloc (.cells #[.pointer none] 141)).alloc _).heap[b]?=_;rw[aN,zN (by simp;omega),aN,zN (by omega)]
 have k5:((wc.alloc (.cells #[.pointer none] 141)).alloc (.cells #[aK bl,.slice (some ⟨wc.heap.size,0,none⟩) 1 1] 136)).drew.heap[wc.heap.size]?=some (.cells #[.pointer none] 141 (0,0)):=by
  show ((wc.alloc (.cells #[.pointer none] 141)).alloc _).heap[wc.heap.size]?=_;rw[aN,zN (by simp),aN,zP rfl]
 have km:((wc.alloc (.cells #[.pointer none] 141)).alloc (.cells #[aK bl,.slice (some ⟨wc.heap.size,0,none⟩) 1 1] 136)).drew.heap[wc.heap.size+1]?=some (.cells #[aK bl,.slice (some ⟨wc.heap.size,0,none⟩) 1 1] 136 (0,0)):=by
  show ((wc.alloc (.cells #[.pointer none] 141)).alloc _).heap[wc.heap.size+1]?=_;rw[aN,zP (by simp)]
 have Kp:(1:Nat)<=maxLen:=by decide
 refine⟨xB bl gc gf gr wc.heap.size,
  ⟨[],.slice (some ⟨gc,0,none⟩) 1 1,.slice (some ⟨gf,0,none⟩) 1 1,.slice (some ⟨gr,0,none⟩) 1 1,.slice (some ⟨wc.heap.size,0,none⟩) 1 1,[.slice none 0 0],[.pointer none],?_,?_⟩,?_,⟨?_,?_⟩,⟨?_,?_⟩,⟨⟨0,?_⟩,?_⟩⟩
 . exact⟨rfl,rfl,λi hi=>absurd hi (by simp[jF]),λi hi=>absurd hi (by simp[jF]),λi hi=>absurd hi (by simp[jF]),λi g hi=>absurd hi (by simp[jF]),λi j hi=>absurd hi (by simp[jF])⟩
 . refine⟨(k bl hl).trans h.lay,km,by unfold xB;exact zP rfl,?_,⟨rfl,.inr ⟨gc,1,#[.slice none 0 0],rfl,zZ _,(k gc Zk).trans h.hc,zR _,Kp,rfl,rfl⟩⟩,?_,⟨rfl,.inr ⟨gr,1,#[.int .i64 (-1)],rfl,zZ _,(k gr QJ).trans h.hr,zR _,Kp,rfl,rfl⟩⟩,
    ⟨rfl,.inr ⟨gf,1,#[.int .u64 0,.int .u64 0],rfl,zZ _,(k gf Lb).trans h.hf,zR _,Kp,rfl,rfl⟩⟩,⟨rfl,.inr ⟨wc.heap.size,1,#[.pointer none],rfl,zZ _,k5,zR _,Kp,rfl,rfl⟩⟩,?_,?_,?_,?_,?_⟩
   . show xB bl gc gf gr wc.heap.size (wc.heap.size+1)=2
     unfold xB;rw[zN (by omega),zN (by omega),zN (by omega),zN (by omega),zN (by omega),zP rfl]
   . intro i c hc
     cases i with
     | zero=>
      cases hc;exact⟨_,rfl,nL _ _ _,λg hg=>by cases hg⟩
     | succ i=>simp[jF] at hc
   . intro i j hi hj
     cases i with
     | zero=>omega
     | succ i=>simp[jF] at hj
   . intro g hg
     have QE:g=gc:=by cases hg;rfl
     rw[QE];unfold xB;rw[zN (by omega),zP rfl]
   . intro g hg
     have QE:g=gr:=by cases hg;rfl
     rw[QE];unfold xB;rw[zN (by omega),zN (by omega),zN (by omega),zP rfl]
   . intro g hg
     have QE:g=wc.heap.size:=by cases hg;rfl
     rw[QE];unfold xB;rw[zN (by omega),zN (by omega),zN (by omega),zN (by omega),zP rfl]
   intro g hg
   have QE:g=gf:=by cases hg;rfl
   rw[QE];unfold xB;rw[zN (by omega),zN (by omega),zP rfl]
 . refine⟨h.os.trans hb.os,h.tape.trans hb.tape,h.output.trans hb.output,?_,λb Hf=> ?_,λb Hf _=> ?_⟩
   . show w.heap.size<=((wc.alloc (.cells #[.pointer none] 141)).alloc _).heap.size
     simp;omega
   . show xB bl gc gf gr wc.heap.size (b)=0
     unfold xB;rw[zN (by omega),zN (by omega),zN (by omega),zN (by omega),zN (by omega),zN (by omega)]
   rw[k b (by omega),h.old b (by omega) (by omega)];exact hb.block b Hf
 . exact (k A (by omega)).trans h.ptr
 . show xB bl gc gf gr wc.heap.size (A)=0
   unfold xB;rw[zN (by omega),zN (by omega),zN (by omega),zN (by omega),zN (by omega),zN (by omega)]
 . exact (k (A+1) (by omega)).trans ((h.old _ (by omega) (by omega)).trans hB)
 . show xB bl gc gf gr wc.heap.size (A+1)=0
   unfold xB;rw[zN (by omega),zN (by omega),zN (by omega),zN (by omega),zN (by omega),zN (by omega)]
 . exact (k (A+1+1) (by omega)).trans ((h.old _ (by omega) (by omega)).trans hC)
 show xB bl gc gf gr wc.heap.size (A+1+1)=0
 unfold xB;rw[zN (by omega),zN (by omega),zN (by omega),zN (by omega),zN (by omega),zN (by omega)]
theorem gZ.tree (h:gZ w tag bl bm Hc s rU fO) (hb:Below w.heap.size w w'):gZ w' (λb=>if b<w.heap.size then tag b else 7) bl bm Hc s rU fO:=by
 obtain⟨vs,vc,vf,vr,vb,qw,Qk,hK,hM⟩:=h;have ht:∀ b,b<w.heap.size->(λb=>if b<w.heap.size then tag b else 7) b=tag b:=λb hb=>zP hb;exact⟨vs,vc,vf,vr,vb,qw,Qk,hK.apart ht λb Q1 _=>hb.block b Q1,hM.keep1 (λb Q1 _ _=>hb.block b Q1) ht⟩
theorem dL.below (hb:Below w.heap.size w w') (ht:∀ b,b<w.heap.size->Hd b=tag b):dL tag Hd w w':=⟨hb.os,hb.tape,hb.output,hb.size,ht,λb Q1 _=>hb.block b Q1⟩
theorem gZ.set0 (h:gZ w tag bl bm Hc s rU fO) (c:Nat) (hc:tag c=0) (v:Value):gZ (w.setCell ⟨c,0,none⟩ v) tag bl bm Hc s rU fO:=by
 obtain⟨vs,vc,vf,vr,vb,qw,Qk,hK,hM⟩:=h;have k:∀ b,tag b≠0->(w.setCell ⟨c,0,none⟩ v).heap[b]?=w.heap[b]?:=λb hb=>aG _ _ _ _ (λe=>hb (by rw[show b=c from e];exact hc));exact⟨vs,vc,vf,vr,vb,qw,Qk,hK.apart (λ_ _=>rfl) λb _ hb=>k b (by omega),hM.keep1 (λb _ h1 _=>k b (by omega)) (λ_ _=>rfl)⟩
theorem dL.from0 {w1:World} (h:dL (λ_=>0) tag w w1) (c:Nat) (hc:w.heap.size<=c) (v:Value) (o:Nat):dL (λ_=>0) tag w (w1.setCell ⟨c,o,none⟩ v):=
 ⟨h.os,h.tape,h.output,by simpa using h.size,h.tags,λb hb ht=>(aG _ _ _ _ (λe=>by have:b=c:=e;omega)).trans (h.keep b hb ht)⟩
theorem altP_fuel {s:ByteArray} {t:aJ} (h:fZ s=.ok t) (h0:s.size<=60):kH s (4*s.size+10) 0 0≠ .error (0,0):=by
 intro e;rw[fZ,e] at h;cases h
theorem or_ok {s o:aW} (hs:s.Ok) (ho:o.Ok):(s.or o).Ok:=⟨Nat.or_lt_two_pow (n:=64) hs.1 ho.1,Nat.or_lt_two_pow (n:=64) hs.2 ho.2⟩
mutual
theorem aX.lt {S:Nat->Prop} :∀ (t:aJ) (v:Value),aX S w t v->aX (λg=>S g/\g<w.heap.size) w t v
 | .cL l,v,hv=>by
  simp only[aX] at hv ⊢;obtain⟨sl,h1,h2,h3⟩:=hv;exact⟨sl,h1,h2,λg hg=>⟨h3 g hg,(h2.lt g hg).2⟩⟩
 | .row l,v,hv=>by
  simp only[aX] at hv ⊢;obtain⟨sl,vs,h1,h2,h3,h4⟩:=hv;exact⟨sl,vs,h1,h2,λg hg=>⟨h3 g hg,(h2.lt g hg).2⟩,bS.lt l vs h4⟩
 | .either a b,v,hv=>by
  simp only[aX] at hv ⊢;obtain⟨va,vb,h1,h2,h3⟩:=hv;exact⟨va,vb,h1,aX.lt a va h2,aX.lt b vb h3⟩
 | .rep t m o,v,hv=>by
  simp only[aX] at hv ⊢;obtain⟨vt,h1,h2⟩:=hv;exact⟨vt,h1,aX.lt t vt h2⟩
theorem bS.lt {S:Nat->Prop} :∀ (l:List aJ) (vs:List Value),bS S w l vs->bS (λg=>S g/\g<w.heap.size) w l vs
 | [],vs,h=>by simp only[bS] at h ⊢;exact h
 | t::l,vs,h=>by
  simp only[bS] at h ⊢;obtain⟨v,r,h1,h2,h3⟩:=h;exact⟨v,r,h1,aX.lt t v h2,bS.lt l r h3⟩
end
theorem gZ.fI (h:gZ w tag bl bm Hc s rU fO) (p:Nat) (hp:p<s.kN.length):
 gZ (w.setCell ⟨Hc.getD p 0,2,none⟩ (.bool true)) tag bl bm Hc (s.fI p) rU fO/\dL tag tag w (w.setCell ⟨Hc.getD p 0,2,none⟩ (.bool true)):=by
 obtain⟨vs,vc,vf,vr,vb,qw,Qk,hK,hM⟩:=h;have hu:=oF.atKnot hK p hp 2 (.bool true);exact⟨⟨vs,vc,vf,vr,vb,qw,Qk,hK.fI p hp,hM.keep1 (λb hb _ h7=>hu.keep b hb (by omega)) (λ_ _=>rfl)⟩,dL.of_k hu⟩
theorem dL.of_d (h:pD tag Hd w w'):dL tag Hd w w':=⟨h.os,h.tape,h.output,h.size,h.tags,λb hb ht=>h.keep b hb (by omega)⟩
structure Own (w:World) (A bl:Nat) (tag:Nat->Nat) (wr:World):Prop where
 upd:dL (λ_=>0) tag w wr
 ptr:wr.heap[A]?=some (.cells #[aK bl] 88 (0,0))/\tag A=0
 err:wr.heap[A+1]?=some (.cells #[.nilIface] 34 (0,0))/\tag (A+1)=0
 aQ:(∃ x,wr.heap[A+1+1]?=some (.cells #[.int .i64 x] 3 (0,0)))/\tag (A+1+1)=0
theorem Own.next {wr wx:World} (h:Own w A bl tag wr) (hu:dL tag Hd wr wx):Own w A bl Hd wx:=by
 obtain⟨⟨x,hx⟩,ht⟩:=h.aQ;refine⟨h.upd.trans hu,⟨?_,?_⟩,⟨?_,?_⟩,⟨⟨x,?_⟩,?_⟩⟩
 . exact (hu.keep _ (aA h.ptr.1) (.inl h.ptr.2)).trans h.ptr.1
 . exact (hu.tags _ (aA h.ptr.1)).trans h.ptr.2
 . exact (hu.keep _ (aA h.err.1) (.inl h.err.2)).trans h.err.1
 . exact (hu.tags _ (aA h.err.1)).trans h.err.2
 . exact (hu.keep _ (aA hx) (.inl ht)).trans hx
 exact (hu.tags _ (aA hx)).trans ht
theorem Own.set {wr:World} (h:Own w A bl tag wr) (hA:w.heap.size<=A) (z:Int):Own w A bl tag (wr.setCell ⟨A+1+1,0,none⟩ (.int .i64 z)):=by
 obtain⟨⟨x,hx⟩,ht⟩:=h.aQ;refine⟨h.upd.from0 _ (by omega) _ _,⟨(aG _ _ _ _ (by simp;omega)).trans h.ptr.1,h.ptr.2⟩,⟨(aG _ _ _ _ (by simp)).trans h.err.1,h.err.2⟩,⟨⟨z,?_⟩,ht⟩⟩;rw[aC _ (A+1+1) 0 _ _ _ _ hx];rfl
theorem aL {B:Nat} {a b:World} (hb:Below B a b) (x:Addr) (hx:x.block<B):b.cell? x=a.cell? x:=by
 unfold World.cell?;rw[hb.block _ hx]
theorem gZ.first {w2:World} {vs:List Value} {vc vf vr vb:Value} {qw Qk:List Value} (hK:pH w tag Hc vs s.kN (λ_=>false))
 (hM:pZ w tag bl bm s.cL rU fO Hc s.bE vc vf vr vb qw Qk) (hb:Below w.heap.size w w2) (g cap:Nat) (hv:vf=.slice (some ⟨g,0,none⟩) fO.length cap) (f0:aW) (fr:List aW) (hf:fO=f0::fr) (x:aW):
 gZ ((w2.setCell ⟨g,0,none⟩ (.int .u64 x.1)).setCell ⟨g,1,none⟩ (.int .u64 x.2)) tag bl bm Hc s rU (x::fr)/\dL tag tag w ((w2.setCell ⟨g,0,none⟩ (.int .u64 x.1)).setCell ⟨g,1,none⟩ (.int .u64 x.2)):=by
 have tg:tag g=6:=hM.t6 g (by rw[hv];rfl);have k:∀ b,b<w.heap.size->b≠g->((w2.setCell ⟨g,0,none⟩ (.int .u64 x.1)).setCell ⟨g,1,none⟩ (.int .u64 x.2)).heap[b]?=w.heap[b]?:=λb Q1 hn=>by
  rw[aG _ _ _ _ hn,aG _ _ _ _ hn];exact hb.block b Q1
 have h2:=(hM.keep1 (λb Q1 _ _=>hb.block b Q1) (λ_ _=>rfl)).setFirst g cap hv f0 fr hf x;refine⟨⟨vs,vc,vf,vr,vb,qw,Qk,hK.apart (λ_ _=>rfl) (λb Q1 ht=>k b Q1 (λe=>by rw[e,tg] at ht;omega)),h2⟩,⟨hb.os,hb.tape,hb.output,by simpa using hb.size,λ_ _=>rfl,λb Q1 ht=>k b Q1 (λe=>by rw[e,tg] at ht;omega)⟩⟩
structure InSt (G:List bY) (f i:Nat) (sf:bA) (L3:gK) (w:World) (A bl bm:Nat) (Hc:List Nat) (n:Nat) (L:gK) (tag:Nat->Nat) (wr:World):Prop where
 lay:gZ wr tag bl bm Hc sf (L.rU++List.replicate (sf.cL.length-n) (-1)) L.fO
 own:Own w A bl tag wr
 rest:eV G f i (sf.bE.drop n) L=some L3
 lr:L.rU.length=n
 lf:L.fO.length=n
 fok:∀ x∈L.fO,x.Ok
 cL:L.cL=sf.cL
theorem jD.lupd {c b:Nat} (h:jD tag Hd c b w w') (hc:c≠0/\c≠7) (hb:tag b≠0/\tag b≠7):dL tag Hd w w':=dL.of_a h hc hb
theorem set_mid (r:List Int) (k:Nat) (x:Int):(r++List.replicate (k+1) (-1:Int)).set r.length x=r++[x]++List.replicate k (-1):=by
 rw[List.set_append_right _ _ (zR _),Nat.sub_self,List.replicate_succ,List.set_cons_zero,List.append_assoc];rfl
theorem keep_mid (r:List Int) (k:Nat):r++List.replicate (k+1) (-1:Int)=r++[-1]++List.replicate k (-1):=by
 rw[List.replicate_succ,List.append_assoc];rfl
def rA (w:World) (bl:Nat) (L:gK):Prop:=∃ vc vf vr qw,w.heap[bl]?=some (.cells #[vc,vf,vr] 132 (0,0))/\w.ownsRow 0 200 1 vc L.cL.length qw/\
 (∀ (i:Nat) (c:List (Int×Int)),L.cL[i]?=some c->∃ cv,qw[i]?=some cv/\fN w cv c)/\w.ownsRow 0 3 1 vr L.rU.length (L.rU.map (Value.int .i64))/\w.ownsRow 0 147 2 vf L.fO.length (setCells L.fO)
theorem rA.ext {L:gK} (h:rA w bl L) (hx:∀ b,b<w.heap.size->w'.heap[b]?=w.heap[b]?):rA w' bl L:=by
 obtain⟨vc,vf,vr,qw,h1,h2,h3,h4,h5⟩:=h;refine⟨vc,vf,vr,qw,(hx bl (aA h1)).trans h1,aU h2 λg hg=>hx g (h2.lt g hg).2,λi c hc=> ?_,aU h4 λg hg=>hx g (h4.lt g hg).2,aU h5 λg hg=>hx g (h5.lt g hg).2⟩;obtain⟨cv,k1,k2⟩:=h3 i c hc;exact⟨cv,k1,aU k2 λg hg=>hx g (k2.lt g hg).2⟩
theorem zeN (a b c:Addr) (w:World):
 CallsD Tryz.prog 55 #[.pointer (some a),.pointer (some b),.pointer (some c)] .returning w λe u' w'=>e=.returned (.tuple #[])/\u'=.returning/\w'=w:=by
 refine callsD_of_wpS Tryz.func55 rfl λc₀ cs hu=> ?_;apply wpS_seq;apply wpS_region;generalize hQ:Exit.thenS _ _=Q;simp[wpOpsS,go_sem,recoverD,hu,Tryz.ntmps55];subst hQ;simp only[Exit.thenS];refine wpS_of_wp (wp_mono (Q:=λen a' w'=>en=.normal/\a'.defers=[]/\w'=w) ?_ ?_)
 . change Code.wp _ _ _ {tmps:=#[.pointer (some a),.pointer (some b),.pointer (some c),undef,undef,undef,.nilIface,undef,undef,undef,undef,undef,undef,undef,undef,undef,undef],defers:=[]} w
   go_wp2
   all_goals trivial
 rintro e a' w' ⟨rfl,hd,rfl⟩
 cases c₀;simp_all[bodyPostS,results,Tryz.results55]
