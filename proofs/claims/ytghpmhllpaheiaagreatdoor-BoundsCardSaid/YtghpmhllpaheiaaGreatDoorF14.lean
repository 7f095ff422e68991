/- Part of a proof. No condition. -/
import Derived.Test.YtghpmhllpaheiaaGreatDoorF10
import Derived.Test.YtghpmhllpaheiaaGreatDoorF13
set_option linter.unusedVariables false
set_option linter.unusedSimpArgs false
set_option maxRecDepth 100000
set_option maxHeartbeats 4000000
namespace Go.Proofs.YtghpmhllpaheiaaGreatDoor
open Go.RowKit Go.Lib
variable {w w' w1:World} {tag Hd:Nat->Nat} {Hc:List Nat} {e:TypeId} {size n c b:Nat} {v v' V:Value} {xs vs:List Value} {G:List bY} {seen:Nat->Bool}
theorem elemClass:eY Tryz.prog 129 200 1 24:=eY.of (z:=.slice none 0 0) Tryz.underlying129 (by kernel_rfl) rfl (by decide)
theorem mD:eY Tryz.prog 39 3 1 8:=eY.of (z:=.int .i64 0) Tryz.underlying39 (by kernel_rfl) rfl (by decide)
theorem iQ:eY Tryz.prog 134 141 1 8:=eY.of (z:=.pointer none) Tryz.underlying134 (by kernel_rfl) rfl (by decide)
theorem elemSet:eY Tryz.prog 130 147 2 16:=eY.of (z:=.agg #[.int .u64 0,.int .u64 0]) Tryz.underlying130 (by kernel_rfl) rfl (by decide)
def setCells (l:List aW):List Value:=l.flatMap λs=>[.int .u64 s.1,.int .u64 s.2]
structure pZ (w:World) (tag:Nat->Nat) (bl bm:Nat) (cL:List (List (Int×Int))) (rU:List Int) (fO:List aW) (Hc bE:List Nat) (vc vf vr vb:Value) (qw Qk:List Value):Prop where
 hl:w.heap[bl]?=some (.cells #[vc,vf,vr] 132 (0,0))
 hm:w.heap[bm]?=some (.cells #[aK bl,vb] 136 (0,0))
 tl:tag bl=1
 tm:tag bm=2
 rc:w.ownsRow 0 200 1 vc cL.length qw
 cc:∀ (i:Nat) (c:List (Int×Int)),cL[i]?=some c->∃ cv,qw[i]?=some cv/\fN w cv c/\∀ g,cv.ownBlock=some g->tag g=7
 rr:w.ownsRow 0 3 1 vr rU.length (rU.map (Value.int .i64))
 rf:w.ownsRow 0 147 2 vf fO.length (setCells fO)
 rb:w.ownsRow 0 141 1 vb bE.length Qk
 bb:∀ (i j:Nat),0<i->bE[i]?=some j->j<Hc.length/\Qk[i]?=some (aK (Hc.getD j 0))
 t3:∀ g,vc.ownBlock=some g->tag g=3
 t4:∀ g,vr.ownBlock=some g->tag g=4
 t5:∀ g,vb.ownBlock=some g->tag g=5
 t6:∀ g,vf.ownBlock=some g->tag g=6
theorem pZ.apart {bl bm:Nat} {cL:List (List (Int×Int))} {rU:List Int} {fO:List aW} {bE ext:List Nat} {vc vf vr vb:Value} {qw Qk:List Value}
 (h:pZ w tag bl bm cL rU fO Hc bE vc vf vr vb qw Qk) (hu:oF tag Hd w w'):pZ w' Hd bl bm cL rU fO (Hc++ext) bE vc vf vr vb qw Qk:=by
 have own:∀ {v:Value} {e:TypeId} {size n:Nat} {xs:List Value} {c:Nat},w.ownsRow 0 e size v n xs->(∀ g,v.ownBlock=some g->tag g=c)->c<10->w'.ownsRow 0 e size v n xs:=
  λhr ht hc=>aU hr λg hg=>hu.keep g (hr.lt g hg).2 (by rw[ht g hg];exact hc)
 have tg:∀ {v:Value} {e:TypeId} {size n:Nat} {xs:List Value} {c:Nat},w.ownsRow 0 e size v n xs->(∀ g,v.ownBlock=some g->tag g=c)->∀ g,v.ownBlock=some g->Hd g=c:=
  λhr ht g hg=>(hu.tags g (hr.lt g hg).2).trans (ht g hg)
 refine⟨?_,?_,?_,?_,own h.rc h.t3 (by decide),?_,own h.rr h.t4 (by decide),own h.rf h.t6 (by decide),own h.rb h.t5 (by decide),?_,tg h.rc h.t3,tg h.rr h.t4,tg h.rb h.t5,tg h.rf h.t6⟩
 . exact (hu.keep bl (aA h.hl) (by rw[h.tl];decide)).trans h.hl
 . exact (hu.keep bm (aA h.hm) (by rw[h.tm];decide)).trans h.hm
 . exact (hu.tags bl (aA h.hl)).trans h.tl
 . exact (hu.tags bm (aA h.hm)).trans h.tm
 . intro i c hc
   obtain⟨cv,h1,h2,h3⟩:=h.cc i c hc;exact⟨cv,h1,own h2 h3 (by decide),tg h2 h3⟩
 intro i j hi hj
 obtain⟨h1,h2⟩:=h.bb i j hi hj;exact⟨by simp;omega,by rw[bF h1];exact h2⟩
structure jD (tag Hd:Nat->Nat) (c b:Nat) (w w':World):Prop where
 os:w'.os=w.os
 tape:w'.tape=w.tape
 output:w'.output=w.output
 size:w.heap.size<=w'.heap.size
 tags:∀ x,x<w.heap.size->Hd x=tag x
 keep:∀ x,x<w.heap.size->tag x≠c->x≠b->w'.heap[x]?=w.heap[x]?
theorem lX {w2:World} {m:Nat} {qh:List Value} {off:Nat} {cells:Array Value} {t:TypeId} (ob:Obj)
 (hb:w.heap[b]?=some (.cells cells t (0,0))) (dg:tag b≠c) (hv:∀ g,v.ownBlock=some g->g<w.heap.size/\tag g=c)
 (Hb:w2.ownsRow 0 e size v' (n+m) (xs++qh)) (hg:(w.alloc ob).grownBy w2 v.ownBlock) (Hz:v'.ownBlock=v.ownBlock\/v'.ownBlock=some (w.alloc ob).heap.size):
 ∃ Hd,jD tag Hd c b w (w2.setCell ⟨b,off,none⟩ v')/\(w2.setCell ⟨b,off,none⟩ v').heap[b]?=some (.cells (cells.setIfInBounds off v') t (0,0))/\
  (w2.setCell ⟨b,off,none⟩ v').ownsRow 0 e size v' (n+m) (xs++qh)/\(∀ g,v'.ownBlock=some g->Hd g=c):=by
 have hB:=(zBr w.heap.size w).alloc (zR _) ob;have Ps:=aA hb;have ye:(w.alloc ob).heap.size=w.heap.size+1:=by simp
 have Qc:w.heap.size+1<=w2.heap.size:=by rw[<-ye];exact hg.size
 have Ku:∀ g,v'.ownBlock=some g->(g<w.heap.size/\tag g=c)\/g=w.heap.size+1:=by
  intro g qn
  rcases Hz with e|e
  . exact .inl (hv g (by rw[<-e];exact qn))
  rw[qn] at e;cases e;exact .inr ye
 have xn:∀ x,x<w.heap.size->tag x≠c->x≠b->(w2.setCell ⟨b,off,none⟩ v').heap[x]?=w.heap[x]?:=by
  intro x hx hc Im;rw[aG _ _ _ _ Im];exact (hg.block x (zLd hx hB.size) (λe=>hc (hv x e.symm).2)).trans (hB.block x hx)
 have Hr:w2.heap[b]?=some (.cells cells t (0,0)):=(hg.block b (zLd Ps hB.size) (λe=>dg (hv b e.symm).2)).trans ((hB.block b Ps).trans hb);refine⟨dB tag (w.heap.size+1) c,⟨hg.os.trans hB.os,hg.tape.trans hB.tape,hg.output.trans hB.output,by simp;omega,λx hx=>dC (by omega),xn⟩,aC w2 b off v' _ _ _ Hr,?_,?_⟩
 . refine aU Hb λg qn=>aG _ _ _ _ ?_
   intro e;have e2:g=b:=e
   rcases Ku g qn with⟨h1,h2⟩|h1
   . rw[e2] at h2;exact dg h2
   omega
 intro g qn
 rcases Ku g qn with⟨h1,h2⟩|h1
 . rw[dC (by omega)];exact h2
 rw[h1,jS]
theorem jD.row (h:jD tag Hd c b w w') {d:Nat} (hr:w.ownsRow 0 e size v n xs) (ht:∀ g,v.ownBlock=some g->tag g=d) (hd:d≠c) (hb:tag b≠d):
 w'.ownsRow 0 e size v n xs/\∀ g,v.ownBlock=some g->Hd g=d:=
 ⟨aU hr λg hg=>h.keep g (hr.lt g hg).2 (by rw[ht g hg];exact hd) (λe=>hb (by rw[<-e];exact ht g hg)),λg hg=>(h.tags g (hr.lt g hg).2).trans (ht g hg)⟩
theorem jD.blk (h:jD tag Hd c b w w') {x:Nat} {o:Obj} (hx:w.heap[x]?=some o) (hc:tag x≠c) (hb:x≠b):w'.heap[x]?=some o/\Hd x=tag x:=
 ⟨(h.keep x (aA hx) hc hb).trans hx,h.tags x (aA hx)⟩
section
variable {w w':World} {tag Hd:Nat->Nat} {bl bm:Nat} {cL:List (List (Int×Int))} {rU:List Int} {fO:List aW} {Hc bE:List Nat} {vc vf vr vb:Value} {qw Qk:List Value}
theorem pZ.addClass (h:pZ w tag bl bm cL rU fO Hc bE vc vf vr vb qw Qk) (hu:jD tag Hd 3 bl w w') (v' cv:Value) (c:List (Int×Int)) (hl:w'.heap[bl]?=some (.cells #[v',vf,vr] 132 (0,0)))
 (Hb:w'.ownsRow 0 200 1 v' (cL.length+1) (qw++[cv])) (ht:∀ g,v'.ownBlock=some g->Hd g=3) (Jh:fN w cv c) (htc:∀ g,cv.ownBlock=some g->tag g=7):
 pZ w' Hd bl bm (cL++[c]) rU fO Hc bE v' vf vr vb (qw++[cv]) Qk:=by
 have qo:bm≠bl:=λe=>by have:=h.tm;rw[e,h.tl] at this;cases this
 have b2:=hu.blk h.hm (by rw[h.tm];decide) qo;have r4:=hu.row h.rr h.t4 (by decide) (by rw[h.tl];decide);have r5:=hu.row h.rb h.t5 (by decide) (by rw[h.tl];decide);have r6:=hu.row h.rf h.t6 (by decide) (by rw[h.tl];decide);have cl:qw.length=cL.length:=by have:=h.rc.1;simpa using this
 refine⟨hl,b2.1,(hu.tags bl (aA h.hl)).trans h.tl,b2.2.trans h.tm,by simpa using Hb,?_,r4.1,r6.1,r5.1,h.bb,ht,r4.2,r5.2,r6.2⟩;intro i x hx
 rcases zLg i cL.length with hi|hi
 . rw[zGl hi] at hx
   obtain⟨cv0,h1,h2,h3⟩:=h.cc i x hx;have r:=hu.row h2 h3 (by decide) (by rw[h.tl];decide);exact⟨cv0,by rw[zGl (by rw[cl];exact hi)];exact h1,r.1,r.2⟩
 rw[zGr hi] at hx
 have yn:i=cL.length:=by
  rcases zLg (i-cL.length) 1 with h1|h1
  . omega
  rw[zGn (by simpa using h1)] at hx;cases hx
 subst yn;simp at hx;subst hx;have r:=hu.row Jh htc (by decide) (by rw[h.tl];decide);exact⟨cv,by rw[<-cl];simp,r.1,r.2⟩
theorem pZ.addRule (h:pZ w tag bl bm cL rU fO Hc bE vc vf vr vb qw Qk) (hu:jD tag Hd 4 bl w w') (v':Value) (x:Int) (hl:w'.heap[bl]?=some (.cells #[vc,vf,v'] 132 (0,0)))
 (Hb:w'.ownsRow 0 3 1 v' (rU.length+1) (rU.map (Value.int .i64)++[.int .i64 x])) (ht:∀ g,v'.ownBlock=some g->Hd g=4):
 pZ w' Hd bl bm cL (rU++[x]) fO Hc bE vc vf v' vb qw Qk:=by
 have qo:bm≠bl:=λe=>by have:=h.tm;rw[e,h.tl] at this;cases this
 have b2:=hu.blk h.hm (by rw[h.tm];decide) qo;have r3:=hu.row h.rc h.t3 (by decide) (by rw[h.tl];decide);have r5:=hu.row h.rb h.t5 (by decide) (by rw[h.tl];decide);have r6:=hu.row h.rf h.t6 (by decide) (by rw[h.tl];decide);refine⟨hl,b2.1,(hu.tags bl (aA h.hl)).trans h.tl,b2.2.trans h.tm,r3.1,?_,by simpa using Hb,r6.1,r5.1,h.bb,r3.2,ht,r5.2,r6.2⟩;intro i y hy;obtain⟨cv0,h1,h2,h3⟩:=h.cc i y hy;have r:=hu.row h2 h3 (by decide) (by rw[h.tl];decide);exact⟨cv0,h1,r.1,r.2⟩
theorem pZ.addBehind (h:pZ w tag bl bm cL rU fO Hc bE vc vf vr vb qw Qk) (hu:jD tag Hd 5 bm w w') (v':Value) (j:Nat) (hj:j<Hc.length) (hm:w'.heap[bm]?=some (.cells #[aK bl,v'] 136 (0,0)))
 (Hb:w'.ownsRow 0 141 1 v' (bE.length+1) (Qk++[aK (Hc.getD j 0)])) (ht:∀ g,v'.ownBlock=some g->Hd g=5):
 pZ w' Hd bl bm cL rU fO Hc (bE++[j]) vc vf vr v' qw (Qk++[aK (Hc.getD j 0)]):=by
 have qo:bl≠bm:=λe=>by have:=h.tm;rw[<-e,h.tl] at this;cases this
 have b1:=hu.blk h.hl (by rw[h.tl];decide) qo;have r3:=hu.row h.rc h.t3 (by decide) (by rw[h.tm];decide);have r4:=hu.row h.rr h.t4 (by decide) (by rw[h.tm];decide);have r6:=hu.row h.rf h.t6 (by decide) (by rw[h.tm];decide);have bl':Qk.length=bE.length:=by have:=h.rb.1;simpa using this
 refine⟨b1.1,hm,b1.2.trans h.tl,(hu.tags bm (aA h.hm)).trans h.tm,r3.1,?_,r4.1,r6.1,by simpa using Hb,?_,r3.2,r4.2,ht,r6.2⟩
 . intro i y hy
   obtain⟨cv0,h1,h2,h3⟩:=h.cc i y hy;have r:=hu.row h2 h3 (by decide) (by rw[h.tm];decide);exact⟨cv0,h1,r.1,r.2⟩
 intro i k hi hk
 rcases zLg i bE.length with hl|hl
 . rw[zGl hl] at hk
   obtain⟨h1,h2⟩:=h.bb i k hi hk;exact⟨h1,by rw[zGl (by rw[bl'];exact hl)];exact h2⟩
 rw[zGr hl] at hk
 have yn:i=bE.length:=by
  rcases zLg (i-bE.length) 1 with h1|h1
  . omega
  rw[zGn (by simpa using h1)] at hk;cases hk
 subst yn;simp at hk;subst hk;exact⟨hj,by rw[<-bl'];simp⟩
theorem pZ.pushClass (h:pZ w tag bl bm cL rU fO Hc bE vc vf vr vb qw Qk) {cv:Value} {c:List (Int×Int)} (ob:Obj) (hV:vc=V) (Jh:fN w cv c) (htc:∀ g,cv.ownBlock=some g->tag g=7)
 (Hb:w1.ownsRow 0 200 1 v' (cL.length+1) (qw++[cv])) (hg:(w.alloc ob).drew.grownBy w1 V.ownBlock) (Hz:v'.ownBlock=V.ownBlock\/v'.ownBlock=some (w.alloc ob).drew.heap.size):
 ∃ QF v1,jD tag QF 3 bl w (w1.setCell ⟨bl,0,none⟩ v')/\pZ (w1.setCell ⟨bl,0,none⟩ v') QF bl bm (cL++[c]) rU fO Hc bE v1 vf vr vb (qw++[cv]) Qk:=by
 subst hV;obtain⟨QF,hA,Q1,TO,PG⟩:=lX (tag:=tag) (c:=3) (b:=bl) (off:=0) ob h.hl (by rw[h.tl];decide) (λg qn=>⟨(h.rc.lt g qn).2,h.t3 g qn⟩) Hb ⟨hg.os,hg.tape,hg.output,hg.size,hg.block⟩ Hz;exact⟨QF,v',hA,h.addClass hA v' cv c Q1 TO PG Jh htc⟩
theorem pZ.pushRule (h:pZ w tag bl bm cL rU fO Hc bE vc vf vr vb qw Qk) {x:Int} (ob:Obj) (hV:vr=V)
 (Hb:w1.ownsRow 0 3 1 v' (rU.length+1) (rU.map (Value.int .i64)++[.int .i64 x])) (hg:(w.alloc ob).drew.grownBy w1 V.ownBlock) (Hz:v'.ownBlock=V.ownBlock\/v'.ownBlock=some (w.alloc ob).drew.heap.size):
 ∃ QF v1,jD tag QF 4 bl w (w1.setCell ⟨bl,2,none⟩ v')/\pZ (w1.setCell ⟨bl,2,none⟩ v') QF bl bm cL (rU++[x]) fO Hc bE vc vf v1 vb qw Qk:=by
 subst hV;obtain⟨QF,hA,Q1,TO,PG⟩:=lX (tag:=tag) (c:=4) (b:=bl) (off:=2) ob h.hl (by rw[h.tl];decide) (λg qn=>⟨(h.rr.lt g qn).2,h.t4 g qn⟩) Hb ⟨hg.os,hg.tape,hg.output,hg.size,hg.block⟩ Hz;exact⟨QF,v',hA,h.addRule hA v' x Q1 TO PG⟩
theorem pZ.pushBehind (h:pZ w tag bl bm cL rU fO Hc bE vc vf vr vb qw Qk) {j:Nat} (hj:j<Hc.length) (ob:Obj) (hV:vb=V)
 (Hb:w1.ownsRow 0 141 1 v' (bE.length+1) (Qk++[aK (Hc.getD j 0)])) (hg:(w.alloc ob).grownBy w1 V.ownBlock) (Hz:v'.ownBlock=V.ownBlock\/v'.ownBlock=some (w.alloc ob).heap.size):
 ∃ QF v1,jD tag QF 5 bm w (w1.setCell ⟨bm,1,none⟩ v')/\pZ (w1.setCell ⟨bm,1,none⟩ v') QF bl bm cL rU fO Hc (bE++[j]) vc vf vr v1 qw (Qk++[aK (Hc.getD j 0)]):=by
 subst hV;obtain⟨QF,hA,Q1,TO,PG⟩:=lX (tag:=tag) (c:=5) (b:=bm) (off:=1) ob h.hm (by rw[h.tm];decide) (λg qn=>⟨(h.rb.lt g qn).2,h.t5 g qn⟩) Hb hg Hz;exact⟨QF,v',hA,h.addBehind hA v' j hj Q1 TO PG⟩
end
theorem jV {ob:Obj} {row:Option Nat} {off:Nat} {c:Array Value} {t:TypeId} (hb:w.heap[b]?=some (.cells c t (0,0))) (qo:row≠some b) (hg:(w.alloc ob).grownBy w1 row):
 w1.cell? ⟨b,off,none⟩=c[off]?/\w1.frozen? ⟨b,off,none⟩=false/\b<w1.heap.size:=by
 have hB:=(zBr w.heap.size w).alloc (zR _) ob;have k:=(hg.block b (zLd (aA hb) hB.size) (λe=>qo e.symm)).trans ((hB.block _ (aA hb)).trans hb);exact⟨aB w1 b off _ _ _ k,aM w1 b off _ _ k,aA k⟩
abbrev zf4 (qa ea sa wa:Nat):Value:=.func (Fn.func 81) #[] #[aK qa,aK ea,aK sa,aK wa]
theorem row_succ2 (h:w.ownsRow 0 e size v (n+1) xs):∃ g cap,v=.slice (some ⟨g,0,none⟩) (n+1) cap:=by
 rcases bD h with⟨_,h0⟩|⟨g,cap,e,_⟩
 . omega
 exact⟨g,cap,e⟩
structure RAt (w:World) (tag:Nat->Nat) (qa ea sa wa:Nat) (Hc l:List Nat) (E:Bool) (S:aW) (qv:Value):Prop where
 hq:w.heap[qa]?=some (.cells #[qv] 134 (0,0))
 rq:w.ownsRow 0 141 1 qv l.length (l.map λj=>aK (Hc.getD j 0))
 he:w.heap[ea]?=some (.cells #[.bool E] 4 (0,0))
 hs:jE w sa S
 hw:w.heap[wa]?=some (.cells #[zf4 qa ea sa wa] 207 (0,0))
 tq:tag qa=8
 te:tag ea=8
 ts:tag sa=8
 tw:tag wa=8
 ne:qa≠ea/\qa≠sa/\qa≠wa/\ea≠sa/\ea≠wa/\sa≠wa
 t9:∀ g,qv.ownBlock=some g->tag g=9
structure pD (tag Hd:Nat->Nat) (w w':World):Prop where
 os:w'.os=w.os
 tape:w'.tape=w.tape
 output:w'.output=w.output
 size:w.heap.size<=w'.heap.size
 tags:∀ b,b<w.heap.size->Hd b=tag b
 keep:∀ b,b<w.heap.size->tag b<8->w'.heap[b]?=w.heap[b]?
theorem pD.refl (tag:Nat->Nat) (w:World):pD tag tag w w:=⟨rfl,rfl,rfl,zR _,λ_ _=>rfl,λ_ _ _=>rfl⟩
theorem pD.trans {t1 t2 t3:Nat->Nat} {a b c:World} (h:pD t1 t2 a b) (k:pD t2 t3 b c):pD t1 t3 a c:=
 ⟨k.os.trans h.os,k.tape.trans h.tape,k.output.trans h.output,zT h.size k.size,λx hx=>(k.tags x (zLd hx h.size)).trans (h.tags x hx),
  λx hx ht=>(k.keep x (zLd hx h.size) (by rw[h.tags x hx];exact ht)).trans (h.keep x hx ht)⟩
structure SUpd (tag Hd:Nat->Nat) (w w':World):Prop where
 os:w'.os=w.os
 tape:w'.tape=w.tape
 output:w'.output=w.output
 size:w.heap.size<=w'.heap.size
 tags:∀ b,b<w.heap.size->Hd b=tag b
 keep:∀ b,b<w.heap.size->tag b≠8->tag b≠9->w'.heap[b]?=w.heap[b]?
theorem SUpd.d (h:SUpd tag Hd w w'):pD tag Hd w w':=⟨h.os,h.tape,h.output,h.size,h.tags,λb hb ht=>h.keep b hb (by omega) (by omega)⟩
theorem SUpd.net (h:SUpd tag Hd w w') (hK:pH w tag Hc vs G seen):pH w' Hd Hc vs G seen:=
 hK.apart h.tags λb hb ht=>h.keep b hb (by omega) (by omega)
theorem pH.congr {seen':Nat->Bool} (h:pH w tag Hc vs G seen) (e:∀ i,i<G.length->seen i=seen' i):pH w tag Hc vs G seen':=
 ⟨h.la,h.lv,λi hi=>by rw[<-e i hi];exact h.cell i hi,h.row,h.ta,h.tv,h.wf⟩
theorem pH.mark (h:pH w tag Hc vs G seen) (k:Nat) (hk:k<G.length) (b:Bool):
 pH (w.setCell ⟨Hc.getD k 0,3,none⟩ (.bool b)) tag Hc vs G (λi=>if i=k then b else seen i):=by
 have inj:∀ i j,i<G.length->j<G.length->Hc.getD i 0=Hc.getD j 0->i=j:=by
  intro i j hi hj e;have h1:=h.ta i hi;have h2:=h.ta j hj;rw[e,h2] at h1;omega
 refine⟨h.la,h.lv,λi hi=> ?_,λi hi=> ?_,h.ta,h.tv,h.wf⟩
 . by_cases e:i=k
   . subst e
     rw[aC w _ 3 _ _ _ _ (h.cell i hi),zP rfl];rfl
   rw[aG _ _ _ _ (λe2=>e (inj i k hi hk e2)),zN e]
   exact h.cell i hi
 refine aU (h.row i hi) λg hg=>aG _ _ _ _ ?_
 intro e;have h1:=h.tv i g hi hg;have h2:=h.ta k hk;rw[show g=Hc.getD k 0 from e,h2] at h1;omega
theorem pD.mark (h:pH w tag Hc vs G seen) (k:Nat) (hk:k<G.length) (v:Value) (o:Nat):pD tag tag w (w.setCell ⟨Hc.getD k 0,o,none⟩ v):=
 ⟨rfl,rfl,rfl,by simp,λ_ _=>rfl,λb hb ht=>aG _ _ _ _ (λe=>by have:=h.ta k hk;rw[<-show b=Hc.getD k 0 from e] at this;omega)⟩
section
variable {w w2:World} {tag Hd:Nat->Nat} {qa ea sa wa:Nat} {Hc l:List Nat} {E:Bool} {S:aW} {qv:Value}
theorem RAt.other (h:RAt w tag qa ea sa wa Hc l E S qv) (b o:Nat) (v:Value) (hb:10<=tag b):RAt (w.setCell ⟨b,o,none⟩ v) tag qa ea sa wa Hc l E S qv:=by
 have k:∀ c,tag c<10->(w.setCell ⟨b,o,none⟩ v).heap[c]?=w.heap[c]?:=λc hc=>aG _ _ _ _ (λe=>by rw[show c=b from e] at hc;omega);exact⟨(k _ (by rw[h.tq];decide)).trans h.hq,aU h.rq λg hg=>k g (by rw[h.t9 g hg];decide),(k _ (by rw[h.te];decide)).trans h.he,(k _ (by rw[h.ts];decide)).trans h.hs,(k _ (by rw[h.tw];decide)).trans h.hw,h.tq,h.te,h.ts,h.tw,h.ne,h.t9⟩
theorem RAt.push (h:RAt w tag qa ea sa wa Hc l E S qv) (k:Nat) (E':Bool) (ob:Obj) (v':Value) (Hb:w2.ownsRow 0 141 1 v' (l.length+1) ((l.map λj=>aK (Hc.getD j 0))++[aK (Hc.getD k 0)]))
 (hg:(w.alloc ob).grownBy w2 qv.ownBlock) (Hz:v'.ownBlock=qv.ownBlock\/v'.ownBlock=some (w.alloc ob).heap.size):
 ∃ Hd,SUpd tag Hd w ((w2.setCell ⟨qa,0,none⟩ v').setCell ⟨ea,0,none⟩ (.bool E'))/\RAt ((w2.setCell ⟨qa,0,none⟩ v').setCell ⟨ea,0,none⟩ (.bool E')) Hd qa ea sa wa Hc (l++[k]) E' S v':=by
 obtain⟨Hd,hA,Q1,TO,PG⟩:=lX (tag:=tag) (c:=9) (b:=qa) (off:=0) ob h.hq (by rw[h.tq];decide) (λg qn=>⟨(h.rq.lt g qn).2,h.t9 g qn⟩) Hb hg Hz;generalize w2.setCell ⟨qa,0,none⟩ v'=w3 at hA Q1 TO ⊢;obtain⟨n1,n2,n3,n4,n5,n6⟩:=h.ne;have be:=hA.blk h.he (by rw[h.te];decide) (Ne.symm n1);have bs:=hA.blk h.hs (by rw[h.ts];decide) (Ne.symm n2);have bw:=hA.blk h.hw (by rw[h.tw];decide) (Ne.symm n3);have tq':=(hA.tags qa (aA h.hq)).trans h.tq
 refine⟨Hd,⟨hA.os,hA.tape,hA.output,by simpa using hA.size,hA.tags,λb hb h8 h9=> ?_⟩,⟨?_,?_,?_,?_,?_,tq',be.2.trans h.te,bs.2.trans h.ts,bw.2.trans h.tw,h.ne,PG⟩⟩
 . rw[aG _ _ _ _ (λe=>h8 (by rw[show b=ea from e];exact h.te))]
   exact hA.keep b hb h9 (λe=>h8 (by rw[e];exact h.tq))
 . rw[aG _ _ _ _ n1];exact Q1
 . rw[zLn,List.map_append]
   refine aU TO λg qn=>aG _ _ _ _ ?_;intro e;have h1:=PG g qn;rw[show g=ea from e,be.2,h.te] at h1;cases h1
 . exact aC w3 ea 0 _ _ _ _ be.1
 . exact (aG _ _ _ _ (Ne.symm n4)).trans bs.1
 exact (aG _ _ _ _ (Ne.symm n5)).trans bw.1
theorem RAt.grow (h:RAt w tag qa ea sa wa Hc l E S qv) (S':aW) (hs:jE w2 sa S') (hg:w.grownBy w2 (some sa)):SUpd tag tag w w2/\RAt w2 tag qa ea sa wa Hc l E S' qv:=by
 obtain⟨n1,n2,n3,n4,n5,n6⟩:=h.ne;have k:∀ b,b<w.heap.size->b≠sa->w2.heap[b]?=w.heap[b]?:=λb hb e=>hg.block b hb (λe2=>e (by cases e2;rfl));refine⟨⟨hg.os,hg.tape,hg.output,hg.size,λ_ _=>rfl,λb hb h8 h9=>k b hb (λe=>h8 (by rw[e];exact h.ts))⟩,⟨(k _ (aA h.hq) n2).trans h.hq,aU h.rq λg qn=>k g (h.rq.lt g qn).2 (λe=> ?_),(k _ (aA h.he) n4).trans h.he,hs,(k _ (aA h.hw) (Ne.symm n6)).trans h.hw,h.tq,h.te,h.ts,h.tw,h.ne,h.t9⟩⟩;have h1:=h.t9 g qn;rw[e,h.ts] at h1;cases h1
end
theorem zbt (G:List bY) (l:List Nat) (k:Nat):iR G (l++[k])=(iR G l||dU G k):=by simp[iR]
theorem zaj (G:List bY) (l:List Nat) (k:Nat):aO G (l++[k])=if 0<aY G k then (aO G l).add (aY G k) else aO G l:=by simp[aO]
theorem uP (hp:∀ i,aY G i<128) (l:List Nat):(aO G l).Ok:=by
 have h:∀ (l:List Nat) (s:aW),s.Ok->(l.foldl (λs k=>if 0<aY G k then s.add (aY G k) else s) s).Ok:=by
  intro l
  induction l with
  | nil=>exact λs hs=>hs
  | cons a l ih=>
   intro s hs;rw[List.foldl_cons];refine ih _ ?_;split
   . exact zep hs (hp a)
   exact hs
 exact h l (0,0) ⟨by decide,by decide⟩
theorem zdN :∀ (f:Nat),(∀ k l l2,uC G f k l=some l2->l.length<=l2.length)/\(∀ r l l2,mP G f r l=some l2->l.length<=l2.length):=by
 intro f
 induction f with
 | zero=>exact⟨λk l l2 h=>(by rw[uC] at h;cases h),λr l l2 h=>(by rw[mP] at h;cases h)⟩
 | succ f ih=>
  refine⟨λk l l2 h=> ?_,λr l l2 h=> ?_⟩
  . rw[uC] at h
    split at h
    . cases h;exact zR _
    have:=ih.2 _ _ _ h
    simp at this;omega
  cases r with
  | nil=>rw[mP] at h;cases h;exact zR _
  | cons k r=>
   rw[mP] at h;split at h
   . cases h
   rename_i s2 e
   exact zT (ih.1 _ _ _ e) (ih.2 _ _ _ h)
def DfsO (G:List bY) (tag:Nat->Nat) (qa ea sa wa:Nat) (Hc:List Nat) (vs:List Value) (l2:List Nat) (w:World) (e:Ending) (w':World):Prop:=
 e=.returned (.tuple #[])/\∃ Hd qv',pH w' Hd Hc vs G (λi=>l2.contains i)/\RAt w' Hd qa ea sa wa Hc l2 (iR G l2) (aO G l2) qv'/\pD tag Hd w w'
def DfsC (G:List bY) (f:Nat):Prop:=∀ (k:Nat) (l l2:List Nat) (w:World) (tag:Nat->Nat) (qa ea sa wa:Nat) (Hc:List Nat) (vs:List Value) (qv:Value),
 uC G f k l=some l2->pH w tag Hc vs G (λi=>l.contains i)->RAt w tag qa ea sa wa Hc l (iR G l) (aO G l) qv->k<G.length->l2.length<=1000000->
 Calls Tryz.prog 81 #[aK (Hc.getD k 0),aK qa,aK ea,aK sa,aK wa] w (DfsO G tag qa ea sa wa Hc vs l2 w)
structure DfsSt (G:List bY) (F:Nat) (tag:Nat->Nat) (qa ea sa wa:Nat) (Hc:List Nat) (vs:List Value) (w:World) (l2 r:List Nat) (qc:Nat->Nat) (l:List Nat) (qv:Value) (wr:World):Prop where
 net:pH wr qc Hc vs G (λi=>l.contains i)
 aQ:RAt wr qc qa ea sa wa Hc l (iR G l) (aO G l) qv
 upd:pD tag qc w wr
 rest:∃ f,f<=F/\mP G f r l=some l2
theorem zac (l:List Nat) (k i:Nat):(l++[k]).contains i=if i=k then true else l.contains i:=by
 by_cases h:i=k<;>simp[h]
theorem dfs_any (G:List bY) (hp:∀ i,aY G i<128) (f:Nat):DfsC G f:=by
 induction f using Nat.strongRecOn with
 | ind f ih=>
 intro k l l2 w tag qa ea sa wa Hc vs qv hd hK hR hk Yt;cases f with
 | zero=>rw[uC] at hd;cases hd
 | succ f=>
 rw[uC] at hd;have hc:=hK.cell k hk;obtain⟨ak,jc⟩:=zE (Hc.getD k 0);have AJ:=aB _ _ 3 _ _ _ hc;simp only[zLa,zLc,zLb] at AJ;rw[<-jc] at AJ ⊢;have fk:w.frozen? ⟨ak,3,none⟩=false:=by rw[jc];exact aM _ _ 3 _ _ hc
 cases hs:l.contains k with
 | true=>
  rw[hs] at AJ;rw[zP hs] at hd;cases hd;have H:=zh (zAi hK hR);clear hK hR hc hs ih jc;go_enter Tryz.func81,Tryz.ntmps81;go_wp2_with (fail);go_end0;exact⟨rfl,tag,qv,H.o.1,H.o.2,pD.refl _ _⟩
 | false=>
  rw[hs] at AJ;rw[zN (by rw[hs];decide)] at hd;have Hg:=(zdN f).2 _ _ _ hd;have A7:l.length+1<=1000000000:=by simp at Hg;omega
  have Fw:=(hK.mark k hk true).congr (seen':=λi=>(l++[k]).contains i) (λi _=>(zac l k i).symm);have ld:=pD.mark hK k hk (.bool true) 3;have I6:=hR.other (Hc.getD k 0) 3 (.bool true) (by rw[hK.ta k hk];omega);rw[<-jc] at Fw ld I6;obtain⟨wm,Lq⟩:=zE (w.setCell ⟨ak,3,none⟩ (.bool true));rw[<-Lq] at Fw ld I6;have WK:=zh Lq;have HK:=zh Fw;have HR:=zh I6;have HU:=zh ld;have HD:=zh hd;have JG:=zh jc;have IH:=zh ih;clear hK hR Fw ld I6 hd hc ih Lq jc hs
  have QY:=HK.o.cell k hk;rw[<-JG.o] at QY;have c0:=aB _ _ 0 _ _ _ QY;have c1:=aB _ _ 1 _ _ _ QY;have c2:=aB _ _ 2 _ _ _ QY;simp only[zLa,zLc,zLb] at c0 c1 c2;have q0:=aB _ _ 0 _ _ _ HR.o.hq;have e0:=aB _ _ 0 _ _ _ HR.o.he;simp only[zLa,zLb] at q0 e0;obtain⟨n1,n2,n3,n4,n5,n6⟩:=HR.o.ne
  have Nc:=zh (zAi (show qv.ownBlock≠some ea from λe=>by have:=HR.o.t9 _ e;rw[HR.o.te] at this;cases this) (zAi (show qv.ownBlock≠some qa from λe=>by have:=HR.o.t9 _ e;rw[HR.o.tq] at this;cases this)
   (show qv.ownBlock≠some ak from λe=>by have h:=HR.o.t9 _ e;have h2:=HK.o.ta k hk;rw[<-JG.o,h] at h2;omega)))
  have nk:qa≠ak/\ea≠ak:=⟨λe=>by have h:=HR.o.tq;have h2:=HK.o.ta k hk;rw[<-JG.o,<-e,h] at h2;omega,λe=>by have h:=HR.o.te;have h2:=HK.o.ta k hk;rw[<-JG.o,<-e,h] at h2;omega⟩;obtain⟨nk1,nk2⟩:=nk;have T1:=zh QY;clear QY;have yf:=zh Hg;clear Hg;obtain⟨E,hE⟩:=zE (iR G l);rw[<-hE] at e0;have HE:=zh hE;clear hE;go_enter Tryz.func81,Tryz.ntmps81;go_upto_region 2 with (fail)
  rw[<-WK.o];go_upto_region 3 with (at_builtin;refine dI rfl iQ rfl (by exact (HR.o.rq.alloc _)) [aK ak] A7 ?_;intro va w1 Xa AU Ya;obtain⟨ga,ca,rfl⟩:=row_succ2 Xa;obtain⟨ke0,ke1,ke2⟩:=jV (off:=0) HR.o.he Nc.o.1 AU;obtain⟨kq0,kq1,kq2⟩:=jV (off:=0) HR.o.hq Nc.o.2.1 AU;obtain⟨kk0,kk1,kk2⟩:=jV (off:=2) T1.o Nc.o.2.2 AU;simp only[zLa,zLc,zLb] at ke0 kq0 kk0;rw[<-HE.o] at ke0)
  have CE:=zh (zAi Xa (zAi AU Ya));clear Xa AU Ya;have wZ:=zh (zAi e0 (zAi q0 AJ));clear e0 q0 AJ;cases E
  all_goals
   go_upto_region 4 with (fail)
  all_goals
   first
   | (have hX:dU G k=iR G (l++[k]):=by rw[zbt,<-HE.o];rfl
      have hP:=HR.o.push k (dU G k) _ _ (by rw[<-JG.o];exact CE.o.1) CE.o.2.1 CE.o.2.2;generalize (w1.setCell ⟨qa,0,none⟩ (.slice (some ⟨ga,0,none⟩) (l.length+1) ca)).setCell ⟨ea,0,none⟩ (.bool (dU G k))=w3 at hP ⊢;rw[hX] at hP;clear hX)
   | (have hX:true=iR G (l++[k]):=by rw[zbt,<-HE.o];rfl
      have hP:=HR.o.push k (true) _ _ (by rw[<-JG.o];exact CE.o.1) CE.o.2.1 CE.o.2.2;generalize (w1.setCell ⟨qa,0,none⟩ (.slice (some ⟨ga,0,none⟩) (l.length+1) ca)).setCell ⟨ea,0,none⟩ (.bool (true))=w3 at hP ⊢;rw[hX] at hP;clear hX)
   obtain⟨J5,Q6,CW⟩:=hP;have ek:=Q6.net HK.o;have Nw:=HU.o.trans Q6.d;clear Q6 ke0 ke1 ke2 kq0 kq1 kq2 kk0 kk1 kk2 CE wZ T1 HK HR HU;have QY:=ek.cell k hk;rw[<-JG.o] at QY;have c0:=aB _ _ 0 _ _ _ QY;have c1:=aB _ _ 1 _ _ _ QY;simp only[zLa,zLc,zLb] at c0 c1;clear QY;have CH:=zh ek;have pw:=zh CW;have Ai:=zh Nw;clear ek CW Nw;by_cases xp:0<aY G k
  all_goals
   first
   | (have hz:(0:Int)<(aY G k:Int):=by omega
      go_upto_region 6 with (go_at_call 62;refine (yN sa (aY G k) (aO G l) _ pw.o.hs (uP hp l) (hp k)).mono ?_;rintro e w5 ⟨rfl,N5,TG⟩)
      have Uo:=pw.o.grow _ N5 TG;rw[show (aO G l).add (aY G k)=aO G (l++[k]) from by rw[zaj,zP xp]] at Uo;have KG:=zh (Uo.1.net CH.o);have jz:=zh Uo.2;have tX:=zh (Ai.o.trans Uo.1.d);clear Uo N5 TG)
   | (have hz:¬ (0:Int)<(aY G k:Int):=by omega
      go_upto_region 6 with (fail)
      have KG:=CH;have jz:=pw;have tX:=Ai;rw[show aO G l=aO G (l++[k]) from by rw[zaj,zN xp]] at jz;generalize w3=w5 at*)
   clear c0 c1 xp hz CH pw Ai;have QY:=KG.o.cell k hk;rw[<-JG.o] at QY;have c0:=aB _ _ 0 _ _ _ QY;simp only[zLa,zLb] at c0;clear QY;have Hb:=KG.o.row k hk;have Ey:=KG.o.wf k;have WH:=zh Ey;clear Ey;have Hl:DfsSt G f tag qa ea sa wa Hc vs w l2 (bC G k) J5 (l++[k]) (.slice (some ⟨ga,0,none⟩) (l.length+1) ca) w5:=⟨KG.o,jz.o,tX.o,f,zR _,HD.o⟩;have Hq:=zh Hl;clear Hl KG jz tX;have A9:((bC G k).length:Int)<=9223372036854775807:=by
    have:(bC G k).length<=maxLen:=by rcases Hb.2 with⟨_,h⟩|⟨_,_,_,_,_,_,h,h',_⟩<;>omega
    unfold maxLen at this;omega
   rcases bD Hb with⟨hv,hn⟩|⟨g,cap,hv,Xp,hg⟩
   . rw[hv] at c0
     have QG:bC G k=[]:=List.eq_nil_of_length_eq_zero hn;have Wm:=zh QG;clear Hb hv hn QG A9;go_wp2_with (fail);refine wp_loop_rounds 1 ?_;rw[rounds_succ];go_wp2_with (fail);go_end0;obtain⟨f',l6,yl⟩:=Hq.o.rest;rw[Wm.o] at yl;cases f' with
     | zero=>rw[mP] at yl;cases yl
     | succ f'=>
      rw[mP] at yl;cases yl;exact⟨rfl,J5,_,Hq.o.net,Hq.o.aQ,Hq.o.upd⟩
   rw[hv] at c0
   have HV:=zh hv;clear hv Hb;go_wp2_with (fail);go_loopw [41] (λs41 wr=>∃ (j:Nat) (tagj:Nat->Nat) (lj:List Nat) (qvj:Value),s41=.int .i64 j/\j<=(bC G k).length/\DfsSt G f tag qa ea sa wa Hc vs w l2 ((bC G k).drop j) tagj lj qvj wr) (λs41 _=>(bC G k).length-(RowKit.intOf s41).toNat)
   case atStart=>exact⟨0,J5,_,_,rfl,by omega,Hq.o⟩
   case round=>
    obtain⟨j,tagj,lj,qvj,rfl,hj,hS⟩:=hrel;have HS:=zh hS;clear hS;by_cases Hf:j<(bC G k).length
    . have hz:(j:Int)<((bC G k).length:Int):=by omega
      obtain⟨n,hn⟩:∃ n,(bC G k)[j]?=some n:=⟨(bC G k)[j],zLe Hf⟩;have NQ:=WH.o n hk (zM hn);have Q2:(bC G k).drop j=n::(bC G k).drop (j+1):=by rw[List.drop_eq_getElem_cons Hf];congr 1;rw[zLe Hf] at hn;exact zO hn
      obtain⟨f',l6,yl⟩:=HS.o.rest;rw[Q2] at yl;cases f' with
      | zero=>rw[mP] at yl;cases yl
      | succ f'=>
      rw[mP] at yl;cases hx:uC G f' n lj with
      | none=>rw[hx] at yl;cases yl
      | some s2=>
      rw[hx] at yl;simp only at yl;have X7:=HS.o.net.row k hk;rw[HV.o] at X7;obtain⟨an,ki⟩:=zE (Hc.getD n 0);have VI:wr.cell? ⟨g,j,none⟩=some (aK an):=by
       rw[ki];refine aE X7 _ _ ?_;rw[List.getElem?_map,hn];rfl
      have Sl:=aB _ _ 0 _ _ _ HS.o.aQ.hw;simp only[zLa,zLb] at Sl;have GA:=zT ((zdN f').2 _ _ _ yl) Yt;have Hh:=IH.o f' (by omega) n lj s2 wr tagj qa ea sa wa Hc vs qvj hx HS.o.net HS.o.aQ NQ GA;rw[<-ki] at Hh;have qi:=zh Hh;have CC:=zh yl;clear Hh yl hx Q2 hn X7 ki GA;go_wp2_with (fail);refine qi.o.mono ?_;rintro e w6 ⟨rfl,YY,qv6,BR,jb,CY⟩;have XZ:=zh (zAi BR (zAi jb CY));clear BR jb CY;go_wp2_with (fail)
      go_roundw
      case rel=>
       exact⟨j+1,YY,s2,qv6,by go_num,by omega,XZ.o.1,XZ.o.2.1,HS.o.upd.trans XZ.o.2.2,f',by omega,CC.o⟩
      case measure=>(simp[zI]<;>omega)
    have hz:¬ (j:Int)<((bC G k).length:Int):=by omega
    have Yb:j=(bC G k).length:=by omega
    obtain⟨f',l6,yl⟩:=HS.o.rest;rw[Yb,List.drop_length] at yl;cases f' with
    | zero=>rw[mP] at yl;cases yl
    | succ f'=>
    rw[mP] at yl;cases yl;clear Yb;go_wp2_with (fail);go_end0;exact⟨rfl,tagj,qvj,HS.o.net,HS.o.aQ,HS.o.upd⟩
