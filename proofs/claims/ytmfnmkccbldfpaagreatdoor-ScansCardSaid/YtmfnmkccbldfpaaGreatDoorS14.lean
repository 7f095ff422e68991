/- Part of a proof. No condition. -/
import Derived.Test.YtmfnmkccbldfpaaGreatDoorS10
import Derived.Test.YtmfnmkccbldfpaaGreatDoorS13
set_option linter.unusedVariables false
set_option linter.unusedSimpArgs false
set_option maxRecDepth 100000
set_option maxHeartbeats 4000000
namespace Go.Proofs.YtmfnmkccbldfpaaGreatDoor
open Go.RowKit Go.Lib Tryz
theorem zzDa {p:Prop} (h:p:=by
 rw[aD _ _ _ _ (λe2=>e (inj i k hi hk e2)),zN e]
 exact h.cell i hi):p:=h
theorem zzC7 {p:Prop} (h:p:=by
 intro i j hi hj e;have h1:=h.ta i hi;have h2:=h.ta j hj;rw[e,h2] at h1;omega):p:=h
theorem zzCU {p:Prop} (h:p:=by
 cases r with
 | nil=>grind [pI]
 | cons k r=>
  grind [pI]):p:=h
theorem zzB7 {p:Prop} (h:p:=by
 intro x hx hc AN;rw[aD _ _ _ _ AN];exact (hg.block x (zLd hx hB.size) (λe=>hc (hv x e.symm).2)).trans (hB.block x hx)):p:=h
theorem zzBs {p:Prop} (h:p:=by
 unfold maxLen at this;omega):p:=h
theorem zzBU {p:Prop} (h:p:=by rw[h.tm];decide):p:=h
theorem zzAh {p:Prop} (h:p:=by rw[h.tl];decide):p:=h
variable {w w' w1:ω} {tag He:Nat->Nat} {Hd:ο} {e:TypeId} {size n c b:Nat} {v v' V:Value} {xs vs:ζ} {G:List cK} {seen:Nat->Bool}
theorem elemClass:eO prog 156 240 1 24:=eO.of (z:=ν) underlying156 zK rfl zd
theorem oY:eO prog 24 3 1 8:=eO.of (z:=ι 0) underlying24 zK rfl zd
theorem jY:eO prog 161 170 1 8:=eO.of (z:=Φ none) underlying161 zK rfl zd
theorem elemSet:eO prog 157 176 2 16:=eO.of (z:=.agg #[υ 0,υ 0]) underlying157 zK rfl zd
def setCells (l:List aZ):ζ:=l.flatMap λs=>[υ s.1,υ s.2]
structure uS (w:ω) (tag:Nat->Nat) (bl bm:Nat) (cL:List θ) (rU:List Int) (fO:List aZ) (Hd bE:ο) (vc vf vr vb:Value) (Ql QN:ζ):Prop where
 hl:w.h bl #[vc,vf,vr] 159
 hm:w.h bm #[aF bl,vb] 163
 tl:tag bl=1
 tm:tag bm=2
 rc:w.r 240 1 vc (I cL) Ql
 cc:∀ (i:Nat) (c:θ),cL[i]?=some c->∃ cv,Ql[i]?=some cv/\gV w cv c/\∀ g,β cv=some g->tag g=7
 rr:w.r 3 1 vr (I rU) (rU.map (Value.int .i64))
 rf:w.r 176 2 vf (I fO) (setCells fO)
 rb:w.r 170 1 vb (I bE) QN
 bb:∀ (i j:Nat),0<i->bE[i]?=some j->j<I Hd/\QN[i]?=some (aF (χ Hd j 0))
 t3:∀ g,β vc=some g->tag g=3
 t4:∀ g,β vr=some g->tag g=4
 t5:∀ g,β vb=some g->tag g=5
 t6:∀ g,β vf=some g->tag g=6
theorem uS.apart {bl bm:Nat} {cL:List θ} {rU:List Int} {fO:List aZ} {bE ext:ο} {vc vf vr vb:Value} {Ql QN:ζ}
 (h:uS w tag bl bm cL rU fO Hd bE vc vf vr vb Ql QN) (hu:uQ tag He w w'):uS w' He bl bm cL rU fO (Hd++ext) bE vc vf vr vb Ql QN:=by
 have own:∀ {v:Value} {e:TypeId} {size n:Nat} {xs:ζ} {c:Nat},w.r e size v n xs->(∀ g,β v=some g->tag g=c)->c<10->w'.r e size v n xs:=
  λhr ht hc=>aU hr λg hg=>hu.keep g (hr.lt g hg).2 zg
 have tg:∀ {v:Value} {e:TypeId} {size n:Nat} {xs:ζ} {c:Nat},w.r e size v n xs->(∀ g,β v=some g->tag g=c)->∀ g,β v=some g->He g=c:=
  λhr ht g hg=>(hu.tags g (hr.lt g hg).2).trans (ht g hg)
 refine⟨?_,?_,?_,?_,own h.rc h.t3 zd,?_,own h.rr h.t4 zd,own h.rf h.t6 zd,own h.rb h.t5 zd,?_,tg h.rc h.t3,tg h.rr h.t4,tg h.rb h.t5,tg h.rf h.t6⟩
 . exact (hu.keep bl (aA h.hl) zzAh).trans h.hl
 . exact (hu.keep bm (aA h.hm) zzBU).trans h.hm
 . exact (hu.tags bl (aA h.hl)).trans h.tl
 . exact (hu.tags bm (aA h.hm)).trans h.tm
 . intro i c hc
   obtain⟨cv,h1,h2,h3⟩:=h.cc i c hc;exact⟨cv,h1,own h2 h3 zd,tg h2 h3⟩
 intro i j hi hj
 obtain⟨h1,h2⟩:=h.bb i j hi hj
 grind
structure kP (tag He:Nat->Nat) (c b:Nat) (w w':ω):Prop where
 os:w'.os=w.os
 tape:w'.tape=w.tape
 output:w'.output=w.output
 size:w.heap.size<=w'.heap.size
 tags:∀ x,x<w.heap.size->He x=tag x
 keep:∀ x,x<w.heap.size->tag x≠c->x≠b->w'.e w x
theorem oR {w2:ω} {m:Nat} {qm:ζ} {off:Nat} {cells:Array Value} {t:TypeId} (ob:Obj)
 (hb:w.h b cells t) (Dc:tag b≠c) (hv:∀ g,β v=some g->g<w.t/\tag g=c)
 (Hb:w2.r e size v' (n+m) (xs++qm)) (hg:(κ w ob).grownBy w2 (β v)) (qh:β v'=β v\/β v'=some (κ w ob).heap.size):
 ∃ He,kP tag He c b w (ς w2 (b.p off) v')/\(ς w2 (b.p off) v').h b (cells.setIfInBounds off v') t/\
  (ς w2 (b.p off) v').r e size v' (n+m) (xs++qm)/\(∀ g,β v'=some g->He g=c):=by
 have hB:=(zBr w.t w).alloc bR ob;have TX:=aA hb;have Yk:(κ w ob).heap.size=w.heap.size+1:=zs
 have:w.heap.size+1<=w2.heap.size:=by rw[<-Yk];exact hg.size
 have XQ:∀ x,x<w.heap.size->tag x≠c->x≠b->(ς w2 (b.p off) v').e w x:=by
  exact zzB7
 have Hm:w2.h b cells t:=(hg.block b (zLd TX hB.size) (λe=>Dc (hv b e.symm).2)).trans ((hB.block b TX).trans hb);refine⟨dI tag (w.t+1) c,⟨hg.os.trans hB.os,hg.tape.trans hB.tape,hg.output.trans hB.output,zx,λx hx=>dJ zo,XQ⟩,aB w2 b off v' _ _ _ Hm,?_,?_⟩
 all_goals grind [aU,aD,dJ,mC]
theorem kP.row (h:kP tag He c b w w') {d:Nat} (hr:w.r e size v n xs) (ht:∀ g,β v=some g->tag g=d) (hd:d≠c) (hb:tag b≠d):
 w'.r e size v n xs/\∀ g,β v=some g->He g=d:=
 ⟨aU hr λg hg=>h.keep g (hr.lt g hg).2 zg (λe=>hb zg),λg hg=>(h.tags g (hr.lt g hg).2).trans (ht g hg)⟩
theorem kP.blk (h:kP tag He c b w w') {x:Nat} {o:Obj} (hx:w.heap[x]?=some o) (hc:tag x≠c) (hb:x≠b):w'.heap[x]?=some o/\He x=tag x:=
 ⟨(h.keep x (aA hx) hc hb).trans hx,h.tags x (aA hx)⟩
section
variable {w w':ω} {tag He:Nat->Nat} {bl bm:Nat} {cL:List θ} {rU:List Int} {fO:List aZ} {Hd bE:ο} {vc vf vr vb:Value} {Ql QN:ζ}
theorem uS.addClass (h:uS w tag bl bm cL rU fO Hd bE vc vf vr vb Ql QN) (hu:kP tag He 3 bl w w') (v' cv:Value) (c:θ) (hl:w'.h bl #[v',vf,vr] 159)
 (Hb:w'.r 240 1 v' (I cL+1) (Ql++[cv])) (ht:∀ g,β v'=some g->He g=3) (PU:gV w cv c) (htc:∀ g,β cv=some g->tag g=7):
 uS w' He bl bm (cL++[c]) rU fO Hd bE v' vf vr vb (Ql++[cv]) QN:=by
 have qg:bm≠bl:=λe=>by have:=h.tm;rw[e,h.tl] at this;omega
 have b2:=hu.blk h.hm zzBU qg;have r4:=hu.row h.rr h.t4 zd zzAh;have r5:=hu.row h.rb h.t5 zd zzAh;have r6:=hu.row h.rf h.t6 zd zzAh;have cl:I Ql=I cL:=by have:=h.rc.1;simpa using this
 refine⟨hl,b2.1,(hu.tags bl (aA h.hl)).trans h.tl,b2.2.trans h.tm,by simpa using Hb,?_,r4.1,r6.1,r5.1,h.bb,ht,r4.2,r5.2,r6.2⟩;intro i x hx
 rcases zLg i (I cL) with hi|hi
 . rw[zGl hi] at hx
   obtain⟨cv0,h1,h2,h3⟩:=h.cc i x hx;have r:=hu.row h2 h3 zd zzAh;exact⟨cv0,zg,r.1,r.2⟩
 rw[zGr hi] at hx
 have Yj:i=I cL:=by
  rcases zLg (i-I cL) 1 with h1|h1
  . omega
  grind
 subst Yj;simp at hx;subst hx;have r:=hu.row PU htc zd zzAh;exact⟨cv,zg,r.1,r.2⟩
theorem uS.addRule (h:uS w tag bl bm cL rU fO Hd bE vc vf vr vb Ql QN) (hu:kP tag He 4 bl w w') (v':Value) (x:Int) (hl:w'.h bl #[vc,vf,v'] 159)
 (Hb:w'.r 3 1 v' (I rU+1) (rU.map (Value.int .i64)++[ι x])) (ht:∀ g,β v'=some g->He g=4):
 uS w' He bl bm cL (rU++[x]) fO Hd bE vc vf v' vb Ql QN:=by
 have qg:bm≠bl:=λe=>by have:=h.tm;rw[e,h.tl] at this;omega
 have b2:=hu.blk h.hm zzBU qg;have r3:=hu.row h.rc h.t3 zd zzAh;have r5:=hu.row h.rb h.t5 zd zzAh;have r6:=hu.row h.rf h.t6 zd zzAh;refine⟨hl,b2.1,(hu.tags bl (aA h.hl)).trans h.tl,b2.2.trans h.tm,r3.1,?_,zg,r6.1,r5.1,h.bb,r3.2,ht,r5.2,r6.2⟩;intro i y hy;obtain⟨cv0,h1,h2,h3⟩:=h.cc i y hy;have r:=hu.row h2 h3 zd zzAh;exact⟨cv0,h1,r.1,r.2⟩
theorem uS.addBehind (h:uS w tag bl bm cL rU fO Hd bE vc vf vr vb Ql QN) (hu:kP tag He 5 bm w w') (v':Value) (j:Nat) (hj:j<I Hd) (hm:w'.h bm #[aF bl,v'] 163)
 (Hb:w'.r 170 1 v' (I bE+1) (QN++[aF (χ Hd j 0)])) (ht:∀ g,β v'=some g->He g=5):
 uS w' He bl bm cL rU fO Hd (bE++[j]) vc vf vr v' Ql (QN++[aF (χ Hd j 0)]):=by
 have qg:bl≠bm:=λe=>by have:=h.tm;rw[<-e,h.tl] at this;omega
 have b1:=hu.blk h.hl zzAh qg;have r3:=hu.row h.rc h.t3 zd zzBU;have r4:=hu.row h.rr h.t4 zd zzBU;have r6:=hu.row h.rf h.t6 zd zzBU;have bl':I QN=I bE:=by have:=h.rb.1;simpa using this
 refine⟨b1.1,hm,b1.2.trans h.tl,(hu.tags bm (aA h.hm)).trans h.tm,r3.1,?_,r4.1,r6.1,by simpa using Hb,?_,r3.2,r4.2,ht,r6.2⟩
 . intro i y hy
   obtain⟨cv0,h1,h2,h3⟩:=h.cc i y hy;have r:=hu.row h2 h3 zd zzBU;exact⟨cv0,h1,r.1,r.2⟩
 intro i k hi hk
 rcases zLg i (I bE) with hl|hl
 . rw[zGl hl] at hk
   obtain⟨h1,h2⟩:=h.bb i k hi hk
   grind
 grind
theorem uS.pushClass (h:uS w tag bl bm cL rU fO Hd bE vc vf vr vb Ql QN) {cv:Value} {c:θ} (ob:Obj) (hV:vc=V) (PU:gV w cv c) (htc:∀ g,β cv=some g->tag g=7)
 (Hb:w1.r 240 1 v' (I cL+1) (Ql++[cv])) (hg:(κ w ob).drew.grownBy w1 (β V)) (qh:β v'=β V\/β v'=some (κ w ob).drew.heap.size):
 ∃ ya v1,kP tag ya 3 bl w (ς w1 bl.a v')/\uS (ς w1 bl.a v') ya bl bm (cL++[c]) rU fO Hd bE v1 vf vr vb (Ql++[cv]) QN:=by
 subst hV;obtain⟨ya,hA,Qy,CW,Cx⟩:=oR (tag:=tag) (c:=3) (b:=bl) (off:=0) ob h.hl zzAh (λg Q2=>⟨(h.rc.lt g Q2).2,h.t3 g Q2⟩) Hb ⟨hg.os,hg.tape,hg.output,hg.size,hg.block⟩ qh;exact⟨ya,v',hA,h.addClass hA v' cv c Qy CW Cx PU htc⟩
theorem uS.pushRule (h:uS w tag bl bm cL rU fO Hd bE vc vf vr vb Ql QN) {x:Int} (ob:Obj) (hV:vr=V)
 (Hb:w1.r 3 1 v' (I rU+1) (rU.map (Value.int .i64)++[ι x])) (hg:(κ w ob).drew.grownBy w1 (β V)) (qh:β v'=β V\/β v'=some (κ w ob).drew.heap.size):
 ∃ ya v1,kP tag ya 4 bl w (ς w1 (bl.p 2) v')/\uS (ς w1 (bl.p 2) v') ya bl bm cL (rU++[x]) fO Hd bE vc vf v1 vb Ql QN:=by
 subst hV;obtain⟨ya,hA,Qy,CW,Cx⟩:=oR (tag:=tag) (c:=4) (b:=bl) (off:=2) ob h.hl zzAh (λg Q2=>⟨(h.rr.lt g Q2).2,h.t4 g Q2⟩) Hb ⟨hg.os,hg.tape,hg.output,hg.size,hg.block⟩ qh;exact⟨ya,v',hA,h.addRule hA v' x Qy CW Cx⟩
theorem uS.pushBehind (h:uS w tag bl bm cL rU fO Hd bE vc vf vr vb Ql QN) {j:Nat} (hj:j<I Hd) (ob:Obj) (hV:vb=V)
 (Hb:w1.r 170 1 v' (I bE+1) (QN++[aF (χ Hd j 0)])) (hg:(κ w ob).grownBy w1 (β V)) (qh:β v'=β V\/β v'=some (κ w ob).heap.size):
 ∃ ya v1,kP tag ya 5 bm w (ς w1 (bm.p 1) v')/\uS (ς w1 (bm.p 1) v') ya bl bm cL rU fO Hd (bE++[j]) vc vf vr v1 Ql (QN++[aF (χ Hd j 0)]):=by
 subst hV;obtain⟨ya,hA,Qy,CW,Cx⟩:=oR (tag:=tag) (c:=5) (b:=bm) (off:=1) ob h.hm zzBU (λg Q2=>⟨(h.rb.lt g Q2).2,h.t5 g Q2⟩) Hb hg qh;exact⟨ya,v',hA,h.addBehind hA v' j hj Qy CW Cx⟩
end
theorem mJ {ob:Obj} {row:Option Nat} {off:Nat} {c:Array Value} {t:TypeId} (hb:w.h b c t) (qg:row≠some b) (hg:(κ w ob).grownBy w1 row):
 w1.cell? (b.p off)=c[off]?/\w1.q b off/\b<w1.t:=by
 have hB:=(zBr w.t w).alloc bR ob;have:=(hg.block b (zLd (aA hb) hB.size) (λe=>qg e.symm)).trans ((hB.block _ (aA hb)).trans hb)
 grind [bF,bN]
abbrev zjd (qa ea sa wa:Nat):Value:=.func (Fn.func 104) #[] #[aF qa,aF ea,aF sa,aF wa]
theorem row_succ2 (h:w.r e size v (n+1) xs):∃ g cap,v=σ g (n+1) cap:=by
 grind [aY]
structure RAt (w:ω) (tag:Nat->Nat) (qa ea sa wa:Nat) (Hd l:ο) (E:Bool) (S:aZ) (qv:Value):Prop where
 hq:w.h qa #[qv] 161
 rq:w.r 170 1 qv (I l) (l.map λj=>aF (χ Hd j 0))
 he:w.h ea #[φ E] 4
 hs:kS w sa S
 hw:w.h wa #[zjd qa ea sa wa] 247
 tq:tag qa=8
 te:tag ea=8
 ts:tag sa=8
 tw:tag wa=8
 ne:qa≠ea/\qa≠sa/\qa≠wa/\ea≠sa/\ea≠wa/\sa≠wa
 t9:∀ g,β qv=some g->tag g=9
structure sP (tag He:Nat->Nat) (w w':ω):Prop where
 os:w'.os=w.os
 tape:w'.tape=w.tape
 output:w'.output=w.output
 size:w.heap.size<=w'.heap.size
 tags:∀ b,b<w.heap.size->He b=tag b
 keep:∀ b,b<w.heap.size->tag b<8->w'.e w b
theorem sP.refl (tag:Nat->Nat) (w:ω):sP tag tag w w:=⟨rfl,rfl,rfl,bR,λ_ _=>rfl,λ_ _ _=>rfl⟩
theorem sP.trans {t1 t2 t3:Nat->Nat} {a b c:ω} (h:sP t1 t2 a b) (k:sP t2 t3 b c):sP t1 t3 a c:=
 ⟨k.os.trans h.os,k.tape.trans h.tape,k.output.trans h.output,zT h.size k.size,λx hx=>(k.tags x (zLd hx h.size)).trans (h.tags x hx),
  λx hx ht=>(k.keep x (zLd hx h.size) zzDL).trans (h.keep x hx ht)⟩
structure SUpd (tag He:Nat->Nat) (w w':ω):Prop where
 os:w'.os=w.os
 tape:w'.tape=w.tape
 output:w'.output=w.output
 size:w.heap.size<=w'.heap.size
 tags:∀ b,b<w.heap.size->He b=tag b
 keep:∀ b,b<w.heap.size->tag b≠8->tag b≠9->w'.e w b
theorem SUpd.d (h:SUpd tag He w w'):sP tag He w w':=⟨h.os,h.tape,h.output,h.size,h.tags,λb hb ht=>h.keep b hb zo zo⟩
theorem SUpd.net (h:SUpd tag He w w') (hK:sU w tag Hd vs G seen):sU w' He Hd vs G seen:=
 hK.apart h.tags λb hb ht=>h.keep b hb zo zo
theorem sU.congr {seen':Nat->Bool} (h:sU w tag Hd vs G seen) (e:∀ i,i<I G->seen i=seen' i):sU w tag Hd vs G seen':=
 ⟨h.la,h.lv,λi hi=>by rw[<-e i hi];exact h.cell i hi,h.row,h.ta,h.tv,h.wf⟩
theorem sU.mark (h:sU w tag Hd vs G seen) (k:Nat) (hk:k<I G) (b:Bool):
 sU (ς w ((χ Hd k 0).p 3) (φ b)) tag Hd vs G (λi=>if i=k then b else seen i):=by
 have inj:∀ i j,i<I G->j<I G->χ Hd i 0=χ Hd j 0->i=j:=by
  exact zzC7
 refine⟨h.la,h.lv,λi hi=> ?_,λi hi=> ?_,h.ta,h.tv,h.wf⟩
 . by_cases e:i=k
   . subst e
     rw[aB w _ 3 _ _ _ _ (h.cell i hi),zP rfl];rfl
   exact zzDa
 refine aU (h.row i hi) λg hg=>aD _ _ _ _ ?_
 intro e;have h1:=h.tv i g hi hg;have h2:=h.ta k hk
 grind
theorem sP.mark (h:sU w tag Hd vs G seen) (k:Nat) (hk:k<I G) (v:Value) (o:Nat):sP tag tag w (ς w ((χ Hd k 0).p o) v):=
 ⟨rfl,rfl,rfl,zs,λ_ _=>rfl,λb hb ht=>aD _ _ _ _ (λe=>by have:=h.ta k hk;grind)⟩
section
variable {w w2:ω} {tag He:Nat->Nat} {qa ea sa wa:Nat} {Hd l:ο} {E:Bool} {S:aZ} {qv:Value}
theorem RAt.other (h:RAt w tag qa ea sa wa Hd l E S qv) (b o:Nat) (v:Value) (hb:10<=tag b):RAt (ς w (b.p o) v) tag qa ea sa wa Hd l E S qv:=by
 have k:∀ c,tag c<10->(ς w (b.p o) v).e w c:=λc hc=>aD _ _ _ _ (λe=>zg);exact⟨(k _ (by rw[h.tq];decide)).trans h.hq,aU h.rq λg hg=>k g (by rw[h.t9 g hg];decide),(k _ (by rw[h.te];decide)).trans h.he,(k _ (by rw[h.ts];decide)).trans h.hs,(k _ (by rw[h.tw];decide)).trans h.hw,h.tq,h.te,h.ts,h.tw,h.ne,h.t9⟩
theorem RAt.push (h:RAt w tag qa ea sa wa Hd l E S qv) (k:Nat) (E':Bool) (ob:Obj) (v':Value) (Hb:w2.r 170 1 v' (I l+1) ((l.map λj=>aF (χ Hd j 0))++[aF (χ Hd k 0)]))
 (hg:(κ w ob).grownBy w2 (β qv)) (qh:β v'=β qv\/β v'=some (κ w ob).heap.size):
 ∃ He,SUpd tag He w (ς (ς w2 qa.a v') ea.a (φ E'))/\RAt (ς (ς w2 qa.a v') ea.a (φ E')) He qa ea sa wa Hd (l++[k]) E' S v':=by
 obtain⟨He,hA,Qy,CW,Cx⟩:=oR (tag:=tag) (c:=9) (b:=qa) (off:=0) ob h.hq (by rw[h.tq];decide) (λg Q2=>⟨(h.rq.lt g Q2).2,h.t9 g Q2⟩) Hb hg qh;generalize w2.setCell qa.a v'=w3 at hA Qy CW ⊢;obtain⟨n1,n2,n3,n4,n5,n6⟩:=h.ne;have be:=hA.blk h.he (by rw[h.te];decide) (Ne.symm n1);have bs:=hA.blk h.hs (by rw[h.ts];decide) (Ne.symm n2);have bw:=hA.blk h.hw (by rw[h.tw];decide) (Ne.symm n3);have tq':=(hA.tags qa (aA h.hq)).trans h.tq
 refine⟨He,⟨hA.os,hA.tape,hA.output,by simpa using hA.size,hA.tags,λb hb h8 h9=> ?_⟩,⟨?_,?_,?_,?_,?_,tq',be.2.trans h.te,bs.2.trans h.ts,bw.2.trans h.tw,h.ne,Cx⟩⟩
 . rw[aD _ _ _ _ (λe=>h8 (by rw[show b=ea from e];exact h.te))]
   exact hA.keep b hb h9 (λe=>h8 (by rw[e];exact h.tq))
 . grind [aD]
 . rw[zLn,List.map_append]
   refine aU CW λg Q2=>aD _ _ _ _ ?_;intro e;have h1:=Cx g Q2;rw[show g=ea from e,be.2,h.te] at h1;cases h1
 . exact aB w3 ea 0 _ _ _ _ be.1
 . exact (aD _ _ _ _ (Ne.symm n4)).trans bs.1
 grind [aD]
theorem RAt.grow (h:RAt w tag qa ea sa wa Hd l E S qv) (S':aZ) (hs:kS w2 sa S') (hg:w.g w2 sa):SUpd tag tag w w2/\RAt w2 tag qa ea sa wa Hd l E S' qv:=by
 obtain⟨n1,n2,n3,n4,n5,n6⟩:=h.ne;have k:∀ b,b<w.heap.size->b≠sa->w2.e w b:=λb hb e=>hg.block b hb (λe2=>e zg);refine⟨⟨hg.os,hg.tape,hg.output,hg.size,λ_ _=>rfl,λb hb h8 h9=>k b hb (λe=>h8 (by rw[e];exact h.ts))⟩,⟨(k _ (aA h.hq) n2).trans h.hq,aU h.rq λg Q2=>k g (h.rq.lt g Q2).2 (λe=> ?_),(k _ (aA h.he) n4).trans h.he,hs,(k _ (aA h.hw) (Ne.symm n6)).trans h.hw,h.tq,h.te,h.ts,h.tw,h.ne,h.t9⟩⟩;have h1:=h.t9 g Q2;rw[e,h.ts] at h1;cases h1
end
theorem zdp (G:List cK) (l:ο) (k:Nat):jZ G (l++[k])=(jZ G l||eM G k):=by simp[jZ]
theorem zbH (G:List cK) (l:ο) (k:Nat):aO G (l++[k])=if 0<aX G k then (aO G l).add (aX G k) else aO G l:=by simp[aO]
theorem zat (hp:∀ i,aX G i<128) (l:ο):(aO G l).Ok:=by
 have h:∀ (l:ο) (s:aZ),s.Ok->(l.foldl (λs k=>if 0<aX G k then s.add (aX G k) else s) s).Ok:=by
  intro l
  induction l with
  | nil=>simp
  | cons a l ih=>
   grind [zhc]
 exact h l (0,0) ⟨zd,zd⟩
theorem zgr :∀ (f:Nat),(∀ k l l2,dfs G f k l=some l2->I l<=I l2)/\(∀ r l l2,pI G f r l=some l2->I l<=I l2):=by
 intro f
 induction f with
 | zero=>grind [dfs,pI]
 | succ f ih=>
  refine⟨λk l l2 h=> ?_,λr l l2 h=> ?_⟩
  . grind [dfs]
  exact zzCU
def DfsO (G:List cK) (tag:Nat->Nat) (qa ea sa wa:Nat) (Hd:ο) (vs:ζ) (l2:ο) (w:ω) (e:Ending) (w':ω):Prop:=
 e=ρ (ϕ #[])/\∃ He qv',sU w' He Hd vs G (λi=>l2.contains i)/\RAt w' He qa ea sa wa Hd l2 (jZ G l2) (aO G l2) qv'/\sP tag He w w'
def DfsC (G:List cK) (f:Nat):Prop:=∀ (k:Nat) (l l2:ο) (w:ω) (tag:Nat->Nat) (qa ea sa wa:Nat) (Hd:ο) (vs:ζ) (qv:Value),
 dfs G f k l=some l2->sU w tag Hd vs G (λi=>l.contains i)->RAt w tag qa ea sa wa Hd l (jZ G l) (aO G l) qv->k<I G->I l2<=1000000->
 Γ 104 #[aF (χ Hd k 0),aF qa,aF ea,aF sa,aF wa] w (DfsO G tag qa ea sa wa Hd vs l2 w)
structure DfsSt (G:List cK) (F:Nat) (tag:Nat->Nat) (qa ea sa wa:Nat) (Hd:ο) (vs:ζ) (w:ω) (l2 r:ο) (qj:Nat->Nat) (l:ο) (qv:Value) (wr:ω):Prop where
 net:sU wr qj Hd vs G (λi=>l.contains i)
 aQ:RAt wr qj qa ea sa wa Hd l (jZ G l) (aO G l) qv
 upd:sP tag qj w wr
 rest:∃ f,f<=F/\pI G f r l=some l2
theorem zfg (l:ο) (k i:Nat):(l++[k]).contains i=if i=k then true else l.contains i:=by
 grind
theorem dfs_any (G:List cK) (hp:∀ i,aX G i<128) (f:Nat):DfsC G f:=by
 induction f using Nat.strongRecOn with
 | ind f ih=>
 intro k l l2 w tag qa ea sa wa Hd vs qv hd hK hR hk Q9;cases f with
 | zero=>rw[dfs] at hd;cases hd
 | succ f=>
 rw[dfs] at hd;have hc:=hK.cell k hk;obtain⟨ak,Pd⟩:=zE (χ Hd k 0);have Bm:=zq 3 hc;rw[<-Pd] at Bm ⊢;have fk:w.q ak 3:=by rw[Pd];exact zF 3 hc
 cases hs:l.contains k with
 | true=>
  rw[hs] at Bm;rw[zP hs] at hd;cases hd;have H:=Θ hK hR;clear hK hR hc hs ih Pd;go_in;go_wp2;go_end0;exact⟨rfl,tag,qv,H.o.1,H.o.2,sP.refl _ _⟩
 | false=>
  rw[hs] at Bm;rw[zN zg] at hd;have Ho:=(zgr f).2 _ _ _ hd;have nf:I l+1<=1000000000:=by simp at Ho;omega
  have Mb:=(hK.mark k hk true).congr (seen':=λi=>(l++[k]).contains i) (λi _=>(zfg l k i).symm);have Su:=sP.mark hK k hk (φ true) 3;have Sp:=hR.other (χ Hd k 0) 3 (φ true) (by rw[hK.ta k hk];omega);rw[<-Pd] at Mb Su Sp;obtain⟨wm,SX⟩:=zE (ς w (ak.p 3) (φ true));rw[<-SX] at Mb Su Sp;have HWM:=zh SX;have HK:=zh Mb;have HR:=zh Sp;have HU:=zh Su;have HD:=zh hd;have tG:=zh Pd;have IH:=zh ih;clear hK hR Mb Su Sp hd hc ih SX Pd hs
  have y7:=HK.o.cell k hk;rw[<-tG.o] at y7;have c0:=zq 0 y7;have c1:=zq 1 y7;have c2:=zq 2 y7;have q0:=zq 0 HR.o.hq;have e0:=zq 0 HR.o.he;obtain⟨n1,n2,n3,n4,n5,n6⟩:=HR.o.ne
  have uv:=zh (zAi (show β qv≠some ea from λe=>by have:=HR.o.t9 _ e;rw[HR.o.te] at this;omega) (zAi (show β qv≠some qa from λe=>by have:=HR.o.t9 _ e;rw[HR.o.tq] at this;omega)
   (show β qv≠some ak from λe=>by have h:=HR.o.t9 _ e;have h2:=HK.o.ta k hk;rw[<-tG.o,h] at h2;omega)))
  have nk:qa≠ak/\ea≠ak:=⟨λe=>by have h:=HR.o.tq;have h2:=HK.o.ta k hk;rw[<-tG.o,<-e,h] at h2;omega,λe=>by have h:=HR.o.te;have h2:=HK.o.ta k hk;rw[<-tG.o,<-e,h] at h2;omega⟩;obtain⟨nk1,nk2⟩:=nk;have ug:=zh y7;clear y7;have XC:=zh Ho;clear Ho;obtain⟨E,hE⟩:=zE (jZ G l);rw[<-hE] at e0;have HE:=zh hE;clear hE;go_in;go_upto_region 2 with fail
  rw[<-HWM.o];go_upto_region 3 with (at_builtin;refine dM rfl jY rfl (by exact (HR.o.rq.alloc _)) [aF ak] nf ?_;intro va w1 VS UY YV;obtain⟨ga,ca,rfl⟩:=row_succ2 VS;obtain⟨ke0,ke1,ke2⟩:=mJ (off:=0) HR.o.he uv.o.1 UY;obtain⟨kq0,kq1,kq2⟩:=mJ (off:=0) HR.o.hq uv.o.2.1 UY;obtain⟨kk0,kk1,kk2⟩:=mJ (off:=2) ug.o uv.o.2.2 UY;simp only[zLa,zLc,zLb] at ke0 kq0 kk0;rw[<-HE.o] at ke0)
  have N8:=Λ VS UY YV;clear VS UY YV;have wC:=Λ e0 q0 Bm;clear e0 q0 Bm;cases E
  all_goals
   go_upto_region 4 with fail
  all_goals
   first
   | (have hX:eM G k=jZ G (l++[k]):=by rw[zdp,<-HE.o];rfl
      have hP:=HR.o.push k (eM G k) _ _ (by rw[<-tG.o];exact N8.o.1) N8.o.2.1 N8.o.2.2;generalize (ς w1 qa.a (σ ga (I l+1) ca)).setCell ea.a (φ (eM G k))=w3 at hP ⊢;rw[hX] at hP;clear hX)
   | (have hX:true=jZ G (l++[k]):=by rw[zdp,<-HE.o];rfl
      have hP:=HR.o.push k (true) _ _ (by rw[<-tG.o];exact N8.o.1) N8.o.2.1 N8.o.2.2;generalize (ς w1 qa.a (σ ga (I l+1) ca)).setCell ea.a (φ (true))=w3 at hP ⊢;rw[hX] at hP;clear hX)
   obtain⟨Tf,yy,Bi⟩:=hP;have IM:=yy.net HK.o;have Es:=HU.o.trans yy.d;clear yy ke0 ke1 ke2 kq0 kq1 kq2 kk0 kk1 kk2 N8 wC ug HK HR HU;have y7:=IM.cell k hk;rw[<-tG.o] at y7;have c0:=zq 0 y7;have c1:=zq 1 y7;clear y7;have bj:=zh IM;have Tw:=zh Bi;have Uq:=zh Es;clear IM Bi Es;by_cases XT:0<aX G k
  all_goals
   first
   | (have hz:(0:Int)<(aX G k:Int):=zo
      go_upto_region 6 with (go_at_call 68;refine (zbw sa (aX G k) (aO G l) _ Tw.o.hs (zat hp l) (hp k)).mono ?_;rintro e w5 ⟨rfl,Ct,Jj⟩)
      have dw:=Tw.o.grow _ Ct Jj;rw[show (aO G l).add (aX G k)=aO G (l++[k]) from by rw[zbH,zP XT]] at dw;have JQ:=zh (dw.1.net bj.o);have PB:=zh dw.2;have A4:=zh (Uq.o.trans dw.1.d);clear dw Ct Jj)
   | (have hz:¬ (0:Int)<(aX G k:Int):=zo
      go_upto_region 6 with fail
      have JQ:=bj;have PB:=Tw;have A4:=Uq;rw[show aO G l=aO G (l++[k]) from by rw[zbH,zN XT]] at PB;generalize w3=w5 at*)
   clear c0 c1 XT hz bj Tw Uq;have y7:=JQ.o.cell k hk;rw[<-tG.o] at y7;have c0:=zq 0 y7;clear y7;have Hb:=JQ.o.row k hk;have NP:=JQ.o.wf k;have WM:=zh NP;clear NP;have Hh:DfsSt G f tag qa ea sa wa Hd vs w l2 (bD G k) Tf (l++[k]) (σ ga (I l+1) ca) w5:=⟨JQ.o,PB.o,A4.o,f,bR,HD.o⟩;have Hl:=zh Hh;clear Hh JQ PB A4;have ni:(I (bD G k):Int)<=9223372036854775807:=by
    have:I (bD G k)<=maxLen:=by rcases Hb.2 with⟨_,h⟩|⟨_,_,_,_,_,_,h,h',_⟩<;>omega
    exact zzBs
   rcases aY Hb with⟨hv,hn⟩|⟨g,cap,hv,Xi,hg⟩
   . rw[hv] at c0
     have QZ:bD G k=[]:=List.eq_nil_of_length_eq_zero hn;have HL0:=zh QZ;clear Hb hv hn QZ ni;go_wp2;refine zzAZ ?_;go_wp2;go_end0;obtain⟨f',EB,Xv⟩:=Hl.o.rest;rw[HL0.o] at Xv;cases f' with
     | zero=>rw[pI] at Xv;cases Xv
     | succ f'=>
      rw[pI] at Xv;cases Xv;exact⟨rfl,Tf,_,Hl.o.net,Hl.o.aQ,Hl.o.upd⟩
   rw[hv] at c0
   have HV:=zh hv;clear hv Hb;go_wp2_with fail;go_loopw [41] (λs41 wr=>∃ (j:Nat) (tagj:Nat->Nat) (lj:ο) (qvj:Value),s41=ι j/\j<=I (bD G k)/\DfsSt G f tag qa ea sa wa Hd vs w l2 ((bD G k).drop j) tagj lj qvj wr) (λs41 _=>I (bD G k)-(ϑ s41).toNat)
   case atStart=>exact⟨0,Tf,_,_,rfl,zo,Hl.o⟩
   case round=>
    obtain⟨j,tagj,lj,qvj,rfl,hj,hS⟩:=hrel;have HS:=zh hS;clear hS;by_cases Hf:j<I (bD G k)
    . have hz:(j:Int)<(I (bD G k):Int):=zo
      obtain⟨n,hn⟩:∃ n,(bD G k)[j]?=some n:=⟨(bD G k)[j],zLe Hf⟩;have EO:=WM.o n hk (zM hn);have Yh:(bD G k).drop j=n::(bD G k).drop (j+1):=by rw[List.drop_eq_getElem_cons Hf];congr 1;rw[zLe Hf] at hn;exact zO hn
      obtain⟨f',EB,Xv⟩:=HS.o.rest;rw[Yh] at Xv;cases f' with
      | zero=>rw[pI] at Xv;cases Xv
      | succ f'=>
      rw[pI] at Xv;cases hx:dfs G f' n lj with
      | none=>rw[hx] at Xv;cases Xv
      | some s2=>
      rw[hx] at Xv;simp only at Xv;have Yx:=HS.o.net.row k hk;rw[HV.o] at Yx;obtain⟨an,Jf⟩:=zE (χ Hd n 0);have Vo:wr.v g j (aF an):=by
       rw[Jf];refine aJ Yx _ _ ?_;rw[List.getElem?_map,hn];rfl
      have hcw:=zq 0 HS.o.aQ.hw;have Oo:=zT ((zgr f').2 _ _ _ Xv) Q9;have Hj:=IH.o f' zo n lj s2 wr tagj qa ea sa wa Hd vs qvj hx HS.o.net HS.o.aQ EO Oo;rw[<-Jf] at Hj;have qw:=zh Hj;have BQ:=zh Xv;clear Hj Xv hx Yh hn Yx Jf Oo;go_wp2_with fail;refine qw.o.mono ?_;rintro e w6 ⟨rfl,Xs,qv6,F8,Pa,Bk⟩;have Kw:=Λ F8 Pa Bk;clear F8 Pa Bk;go_wp2
      go_roundw
      case rel=>
       exact⟨j+1,Xs,s2,qv6,by go_num,zo,Kw.o.1,Kw.o.2.1,HS.o.upd.trans Kw.o.2.2,f',zo,BQ.o⟩
      case measure=>exact zY
    have hz:¬ (j:Int)<(I (bD G k):Int):=zo
    have xi:j=I (bD G k):=zo
    obtain⟨f',EB,Xv⟩:=HS.o.rest;rw[xi,List.drop_length] at Xv;cases f' with
    | zero=>rw[pI] at Xv;cases Xv
    | succ f'=>
    rw[pI] at Xv;cases Xv;clear xi;go_wp2;go_end0;exact⟨rfl,tagj,qvj,HS.o.net,HS.o.aQ,HS.o.upd⟩
