/- Part of a proof. No condition. -/
import Derived.Deep.RegionHeld3
import Derived.Test.YtmfnmkccbldfpaaGreatDoorS14
import Derived.Deep.RegionHeld
import Derived.StillTail
set_option linter.unusedVariables false
set_option linter.unusedSimpArgs false
set_option maxRecDepth 100000
set_option maxHeartbeats 40000000
namespace Go.Proofs.YtmfnmkccbldfpaaGreatDoor
open Go.RowKit Go.Lib Tryz
variable {d:Array Bool} {oi:Oper} {v:Value} {f:Nat} {a:Act} {w:ω}
section
variable {P:Program} {ops:Array Oper} {Q:Exit->Act->World->Prop} {md:Region.Mode} {S:World->Prop} {n:Nat}
def sY (P:Program) (md:Region.Mode) (ops:Array Oper) (Q:Exit->Act->World->Prop) (S:World->Prop) (n:Nat):Nat->Array Bool->Act->World->Prop
 | 0,d,a,w=>Region.ready md ops d=[]/\Q .normal a w
 | f+1,d,a,w=>(Region.ready md ops d=[]->Q .normal a w)/\∀ j∈Region.ready md ops d,wpOp P ops Q j (λa' w'=>(j≠n->S w')/\sY P md ops Q S n f (d.setIfInBounds j true) a' w') a w
theorem zb6:∀ (f:Nat) (d:Array Bool) (a:Act) (w:ω),sY P md ops Q S n f d a w->wpAny P md ops Q f d a w
 | 0,_,_,_,h=>h
 | f+1,_,_,_,h=>⟨h.1,λj hj=>wpOp_mono (λa' w' k=>zb6 f _ a' w' k.2) (h.2 j hj)⟩
theorem zfH {i j:Nat} (hi:d.getD i true=false) (hw:∃ o,ops[j]?=some o/\∃ e∈o.after,Region.binds md e=true/\e.on=i):¬ j∈Region.ready md ops d:=by
 grind [mem_ready]
theorem zge {i:Nat} (hi:ops[i]?=some oi) (hsel:∀ (j:Nat) (o:Oper) cs b,ops[j]?=some o->o.op≠ .select cs b) (XP:i≠n)
 (hn:∃ o,ops[n]?=some o/\∃ e∈o.after,Region.binds md e=true/\e.on=i) (hQ:∀ c a w,Q (.panic c) (a.put oi.dst v) w->Q (.panic c) a w):
 ∀ (f:Nat) (d:Array Bool) (a:Act) (w:ω),
  (∀ j oj,ops[j]?=some oj->j≠i->d.getD j true=false->(∀ e∈oj.after,Region.binds md e=true->e.on≠i)->oi.apart ops oj=true)->
  i∈Region.ready md ops d->YieldsIf P ops S oi v a->S w->
  sY P md ops Q S n f (d.setIfInBounds i true) (a.put oi.dst v) w->sY P md ops Q S n (f+1) d a w:=by
 intro f
 induction f with
 | zero=>
  intro d a w _ hr hy hS H;refine⟨λh=>absurd hr zg,λj hj=> ?_⟩;by_cases e:j=i
  . subst e
    exact hy.wpOp hi hS ⟨λ_=>hS,H⟩
  . exact absurd (ready_mono hj e) (by rw[H.1];simp)
 | succ f ih=>
  intro d a w PN hr hy hS H;refine⟨λh=>absurd hr zg,λj hj=> ?_⟩;by_cases e:j=i
  . subst e
    exact hy.wpOp hi hS ⟨λ_=>hS,H⟩
  have Cz:d.getD i true=false:=(mem_ready.1 hr).1
  have I2:j≠n:=λe2=>zfH Cz zg hj;obtain⟨hju,oj,ic,_⟩:=mem_ready.1 hj;have xw:∀ e'∈oj.after,Region.binds md e'=true->e'.on≠i:=λe' he hb heq=>zfH Cz ⟨oj,ic,e',he,hb,heq⟩ hj;have k:=wpOp_putIf ic (PN j oj ic e hju xw) (λcs b=>hsel i oi cs b hi) (λcs b=>hsel j oj cs b ic) hQ hy (H.2 j (ready_mono hj e));refine wpOp_mono (λa' w' h3=>⟨λ_=>h3.2.1 I2,?_⟩) k;refine ih (d.setIfInBounds j true) a' w' (λm om hm GZ OL G1=>PN m om hm GZ ?_ G1) (ready_mono hr (Ne.symm e)) h3.1 (h3.2.1 I2) ?_
  . by_cases e3:j=m
    . grind
    simp_all
  grind [Array.setIfInBounds_comm]
theorem sink_take (i:Nat) (hi:ops.toList[i]?=some oi) (hs:Region.noSelect ops=true) (hf:Region.free md ops d i=true)
 (hr:(Region.ready md ops d).contains i=true) (hn:(decide (i≠n)&&Region.waitsFor md ops n i)=true) (hQ:∀ c a w,Q (.panic c) (a.put oi.dst v) w->Q (.panic c) a w) (hg:oi.guard=none)
 (hy:∀ w,S w->(execOp a.eval oi).run P w=.ok (.value v) w) (hS:S w) (h:sY P md ops Q S n f (d.setIfInBounds i true) (a.put oi.dst v) w):sY P md ops Q S n (f+1) d a w:=by
 rw[Bool.and_eq_true,decide_eq_true_eq] at hn;have Jk:ops[i]?=some oi:=by rw[<-hi];simp
 refine zge Jk (Region.noSelect_spec hs) hn.1 (Region.waitsFor_spec hn.2) hQ f d a w (Region.free_spec Jk hf) zg (.inl ⟨by simp[Region.wanted,hg],hy⟩) hS h
theorem aE (i:Nat) {d':Array Bool} {a':Act} (hS:S w) (h:sY P md ops Q S n f d' a' w)
 (hi:ops.toList[i]?=some oi:=by rfl) (hs:Region.noSelect ops=true:=by kernel_rfl) (hf:Region.free md ops d i=true:=by kernel_rfl) (hr:(Region.ready md ops d).contains i=true:=by kernel_rfl)
 (hn:(decide (i≠n)&&Region.waitsFor md ops n i)=true:=by kernel_rfl) (hy:∀ w,S w->(execOp a.eval oi).run P w=.ok (.value v) w:=by (intro w9 Pb;(try dsimp only at Pb);go_simp;(try with_reducible rfl)))
 (ha:a.put oi.dst v=a':=by ((try simp only[Act.put,lA,lB,lC]);rfl)) (hd:d.setIfInBounds i true=d':=by ((try simp only[lA,lB,lC]);rfl)) (hQ:∀ c a w,Q (.panic c) (a.put oi.dst v) w->Q (.panic c) a w:=by exact λ_ _ _ h=>h) (hg:oi.guard=none:=by rfl):sY P md ops Q S n (f+1) d a w:=by
 subst ha;subst hd;exact sink_take i hi hs hf hr hn hQ hg hy hS h
theorem sink_step (i:Nat) (hi:ops.toList[i]?=some oi) (hr:Region.ready md ops d=[i])
 (h:∀ K:Act->World->Prop,Shut (∀ a' w',(i≠n->S w')->sY P md ops Q S n f (d.setIfInBounds i true) a' w'->K a' w')->if Region.wanted oi (yielded ops a.tmps)=true then Oper.wp P oi a w K Q else K (a.put oi.dst undef) w):
 sY P md ops Q S n (f+1) d a w:=by
 have Jk:ops[i]?=some oi:=by rw[<-hi];simp
 refine⟨λh0=>absurd (hr.symm.trans h0) zs,λj hj=> ?_⟩;rw[hr,zMs] at hj;subst hj;exact wpOp_step Jk (λK hK=>h K (show Shut _ from λa1 w1 h1 h2=>hK a1 w1 ⟨h1,h2⟩))
theorem bY (i:Nat) 
 (h:∀ K:Act->World->Prop,Shut (∀ a' w',(i≠n->S w')->sY P md ops Q S n f (d.setIfInBounds i true) a' w'->K a' w')->if Region.wanted oi (yielded ops a.tmps)=true then Oper.wp P oi a w K Q else K (a.put oi.dst undef) w) (hi:ops.toList[i]?=some oi:=by rfl) (hr:Region.ready md ops d=[i]:=by kernel_rfl):sY P md ops Q S n (f+1) d a w:=sink_step i hi hr h
theorem dB (hr:Region.ready md ops d=[]) (h:Q .normal a w):sY P md ops Q S n f d a w:=by
 cases f with
 | zero=>exact⟨hr,h⟩
 | succ f=>exact⟨λ_=>h,λj hj=>absurd hj zg⟩
theorem bV (S:World->Prop) (n:Nat) {id:Nat} (hm:P.follows .mixedOrders=true) (hS:S w.drew) (h:S w.drew->sY P .any ops Q S n ops.size (Array.replicate ops.size false) a w.drew):(Code.region id ops true).wp P Q a w:=
 wp_region_any hm (zb6 _ _ _ _ (h hS))
end
end Go.Proofs.YtmfnmkccbldfpaaGreatDoor
namespace Go.Proofs.YtmfnmkccbldfpaaGreatDoor
set_option maxRecDepth 100000
set_option maxHeartbeats 40000000
open Go.RowKit Go.Lib Tryz
theorem zzDU {p:Prop} (h:p:=by have:=LP.o;have h:=yk.o;unfold bW at h;omega):p:=h
theorem zzDO {p:Prop} (h:p:=by have h:=yk.o.1;have:=HL.o;unfold bW at h;omega):p:=h
theorem zzDJ {p:Prop} (h:p:=by have:=HN.o;have:=YY.o;rw[HS.o.1];grind [bC.link]):p:=h
theorem zzDE {p:Prop} (h:p:=by have:=HN.o;have:=hR.later;unfold bW at this;omega):p:=h
theorem zzCw {p:Prop} (h:p:=by have:=HN.o;have:=YY.o;rw[HS.o.1];simp only[bC.link];grind):p:=h
theorem zzCt {p:Prop} (h:p:=by have h:=yk.o.2.1;unfold bW at h;have:=HN.o;have:=Pu.o;omega):p:=h
theorem zzCo {p:Prop} (h:p:=by exact (TB.o.alloc _)):p:=h
theorem zzCb {p:Prop} (h:p:=by simp[Hh];omega):p:=h
theorem zzCZ {p q:Prop} (k:q) (h:q->p:=by intro zz;rw[<-Y0.o.1,<-Y0.o.2.1,<-Y0.o.2.2.1,<-show b1=a1+1 by rw[Y0.o.2.2.2.1,Y0.o.2.2.1],<-show d1=b1+1 by rw[Y0.o.2.2.2.2,Y0.o.2.2.2.1]];exact zz):p:=h k
theorem zzB9 {p:Prop} (h:p:=by rw[show ([n,n+1].map λj=>aF (qi.getD j 0))=[aF a1,aF b1] from by rw[AU.o,ed.o];rfl];exact vd):p:=h
theorem zzB5 {p:Prop} (h:p:=by rw[show ([n].map λj=>aF (qi.getD j 0))=[aF a1] from congrArg (λz=>[aF z]) AU.o.symm];exact vd):p:=h
theorem zzB4 {p:Prop} (h:p:=by
 rw[Qb,show n+1=(Hd++[(w.alloc (.cells #[.iface (fU t) x,.int .i64 m,.bool o] 246)).heap.size]).length by grind,cV,Hh];simp):p:=h
theorem zzB1 {p:Prop} (h:p:=by
 rw[Qb,bK zg,show n+1=(Hd++[(w.alloc (.cells #[.iface (fU ta) xa,.iface (fU tb) xb] 244)).heap.size]).length by grind,cV,Hh];simp):p:=h
theorem zzBm {p:Prop} (h:p:=by rw[HS.o.1];show S2.cL.length=_;rw[YY.o.1]):p:=h
theorem zzBd {p:Prop} (h:p:=by
 intro w5 yq KH;have h:=((yu.upd.trans KH).keep st Hl.o.2.2 (.inl Hl.o.2.1)).trans Hl.o.1;have h0:=zQ 0 h;have h1:=zQ 1 h;exact⟨by assumption,by assumption,aA h⟩):p:=h
theorem zzBE {p:Prop} (h:p:=by rw[<-xx];show S6.cL.length=S4.cL.length;rw[H6.o,HS.o.2.1];rfl):p:=h
theorem zzAs {p:Prop} (h:p:=by
 rw[Qb,show n+2=(Hd++[(w.alloc (.cells #[.iface (fU ta) xa,.iface (fU tb) xb] 244)).heap.size]++[((w.alloc (.cells #[.iface (fU ta) xa,.iface (fU tb) xb] 244)).alloc (.cells #[.slice none 0 0,.int .i64 0,.bool false,.bool false] 172)).heap.size]).length by grind,cV,Hh];simp):p:=h
theorem zzAl {p q:Prop} (k:q) (h:q->p:=by intro zz;refine wp_region_noPanic ?_;exact zz):p:=h k
theorem zzAg {p q:Prop} (k:q) (h:q->p:=by intro zz;refine dB zr ?_;refine NoPanic.normal ?_;exact zz):p:=h k
theorem zzAU {p:Prop} (h:p:=by simp[Value.oneCell']):p:=h
theorem zzAQ {p:Prop} (h:p:=by have h:=yk.o;have:=HL.o;unfold bW at h;omega):p:=h
theorem zzAF {p q:Prop} (k:q) (h:q->p:=by intro zz;(try simp only[Act.put,lA,lB,lC]);exact zz):p:=h k
theorem zzAC {p q:Prop} (k:q) (h:q->p:=by intro zz;refine aE 0 Hc ?_;refine aE 1 Hc ?_;refine aE 2 Hc ?_;refine aE 3 Hc ?_;refine aE 4 Hc ?_;refine aE 5 Hc ?_;refine aE 6 Hc ?_;refine aE 7 Hc ?_;exact zz):p:=h k
variable {w w' wr:ω} {tag He qj:Nat->Nat} {Hd:ο} {vs:ζ} {G:List cK} {bl bm:Nat} {rU:List Int} {fO:List aZ} {s:bC}
theorem mB {P:Program} {ops:Array Oper} {o:Oper} {a:Act} {K:Act->World->Prop} {Q:Exit->Act->World->Prop} {E:Prop} (Ko:o.guard=none) (s x:Operand) {t e:TypeId} {size bytes:Nat}
 (ho:o.op=.call {callee:=.builtin .append,args:=#[s,x],argTypes:=#[t,t]}) (ET:eO P t e size bytes)
 (v:Value) (n:Nat) (xs:ζ) (hs:a.eval s=v) (Yb:w.r e size v n xs)
 (ad:Addr) (m c:Nat) (qm:ζ) (hx:a.eval x=τ (some ad) m c) (hl:I qm=m*size) (hnews:∀ j u,qm[j]?=some u->w.cell? (ad.add j)=some u) (h1:∀ u∈qm,u.oneCell'=true)
 (hm:0<m) (hb:n+m<=1000000000) (hbytes:bytes<=1000)
 (h:∀ v' w',w'.r e size v' (n+m) (xs++qm)->w.grownBy w' (β v)->(β v'=β v\/β v'=some w.heap.size)->K (a.put o.dst v') w'):
 if Region.wanted o (yielded ops a.tmps)=true then Oper.wp P o a w K Q else E:=by
 have hw:Region.wanted o (yielded ops a.tmps)=true:=by simp[Region.wanted,Ko]
 rw[zP hw];obtain⟨v',w',hr,h2,h3,h4⟩:=qE (P:=P) w ET o.type v n xs Yb ad m c qm hl hnews h1 hm hb hbytes;unfold Oper.wp execOp;refine zzAe ?_;exact h v' w' h2 h3 h4
theorem cH {e:TypeId} {size:Nat} {v:Value} {n:Nat} {xs:ζ} (h:w.r e size v (n+1) xs):∃ g cap,v=σ g (n+1) cap:=by
 grind [aY]
def jC (w:ω) (tag:Nat->Nat) (bl bm:Nat) (Hd:ο) (s:bC) (rU:List Int) (fO:List aZ):Prop:=
 ∃ vs vc vf vr vb Ql QN,sU w tag Hd vs s.kN (λ_=>false)/\uS w tag bl bm s.cL rU fO Hd s.bE vc vf vr vb Ql QN
structure eA (tag He:Nat->Nat) (w w':ω):Prop where
 os:w'.os=w.os
 tape:w'.tape=w.tape
 output:w'.output=w.output
 size:w.heap.size<=w'.heap.size
 tags:∀ b,b<w.heap.size->He b=tag b
 keep:∀ b,b<w.heap.size->tag b=0\/tag b=7->w'.e w b
theorem eA.refl (tag:Nat->Nat) (w:ω):eA tag tag w w:=⟨rfl,rfl,rfl,bR,λ_ _=>rfl,λ_ _ _=>rfl⟩
theorem eA.trans {t1 t2 t3:Nat->Nat} {a b c:ω} (h:eA t1 t2 a b) (k:eA t2 t3 b c):eA t1 t3 a c:=
 ⟨k.os.trans h.os,k.tape.trans h.tape,k.output.trans h.output,zT h.size k.size,λx hx=>(k.tags x (zLd hx h.size)).trans (h.tags x hx),
  λx hx ht=>(k.keep x (zLd hx h.size) zzDL).trans (h.keep x hx ht)⟩
theorem eA.of_k (h:uQ tag He w w'):eA tag He w w':=⟨h.os,h.tape,h.output,h.size,h.tags,λb hb ht=>h.keep b hb zo⟩
theorem eA.of_a {c b:Nat} (h:kP tag He c b w w') (hc:c≠0/\c≠7) (hb:tag b≠0/\tag b≠7):eA tag He w w':=
 ⟨h.os,h.tape,h.output,h.size,h.tags,λx hx ht=>h.keep x hx zo (λe=>zg)⟩
theorem aW.upd (hu:eA tag He w w') {t:aL} {v:Value} (h:aW (λg=>tag g=7/\g<w.t) w t v):aW (λg=>He g=7/\g<w'.t) w' t v:=
 h.ext (λg hg=>⟨(hu.tags g hg.2).trans hg.1,zLd hg.2 hu.size⟩) (λg hg Hf=>hu.keep g Hf (.inr hg.1))
theorem kP.kat {c b:Nat} {seen:Nat->Bool} (hu:kP tag He c b w w') (h:sU w tag Hd vs G seen) (hc:c<10) (hb:tag b<10):sU w' He Hd vs G seen:=
 h.apart hu.tags λx hx ht=>hu.keep x hx zo (λe=>zg)
def LayO (tag:Nat->Nat) (bl bm:Nat) (Hd:ο) (n0:Nat) (rU:List Int) (fO:List aZ) (p:Nat) (s':bC) (w:ω) (e:Ending) (w':ω):Prop:=
 ∃ He ext,e=ρ (aF (χ (Hd++ext) p 0))/\jC w' He bl bm (Hd++ext) s' (rU++ψ (I s'.cL-n0) (-1)) fO/\p<I s'.kN/\eA tag He w w'
def LayC (t:aL):Prop:=∀ (i p:Nat) (s s':bC) (w:ω) (tag:Nat->Nat) (bl bm:Nat) (Hd:ο) (rU:List Int) (fO:List aZ) (v:Value),
 jC w tag bl bm Hd s rU fO->I rU=I s.cL->I s.bE=I s.cL->0<I s.cL->aW (λg=>tag g=7/\g<w.t) w t v->i<I s.kN->fE t i s=some (p,s')->(∀ k,I (bD s'.kN k)<=1000000)->
 Γ 63 #[π bm,v,aF (χ Hd i 0)] w (LayO tag bl bm Hd (I s.cL) rU fO p s' w)
theorem cls_end {wm w6:ω} {cL:List θ} {bE:ο} {vc vf vr vb:Value} {Ql QN:ζ} 
 (hK:sU wm tag Hd vs G (λ_=>false)) (hM:uS wm tag bl bm cL rU fO Hd bE vc vf vr vb Ql QN) (i:Nat) (hi:i<I G) (np:Nat) (v6:Value) (ob:Obj)
 (Hb:w6.r 170 1 v6 (I (bD G i)+1) ((bD G i).map (λj=>aF (χ Hd j 0))++[aF wm.t]))
 (hg:(κ (κ wm (Ω #[ν,ι np,φ false,φ false] 172)) ob).grownBy w6 (β (χ vs i undef)))
 (qh:β v6=β (χ vs i undef)\/β v6=some (κ (κ wm (Ω #[ν,ι np,φ false,φ false] 172)) ob).heap.size):
 ∃ He vs',sU (ς w6 (χ Hd i 0).a v6) He (Hd++[wm.heap.size]) vs' ((G++[(⟨[],np,false⟩:cK)]).modify i (qO [I G])) (λ_=>false)/\
  uS (ς w6 (χ Hd i 0).a v6) He bl bm cL rU fO (Hd++[wm.heap.size]) bE vc vf vr vb Ql QN/\uQ tag He wm (ς w6 (χ Hd i 0).a v6):=by
 have hK5:=hK.push np rfl;have KH:=uQ.push tag wm (Ω #[ν,ι np,φ false,φ false] 172) (10+2*I G);have ea:χ (Hd++[wm.heap.size]) i 0=χ Hd i 0:=bK (by rw[hK.la];exact hi);have ev:χ (vs++[Value.slice none 0 0]) i undef=χ vs i undef:=bK (by rw[hK.lv];exact hi);have et:bD (G++[(⟨[],np,false⟩:cK)]) i=bD G i:=vZ hi;have em:(bD G i).map (λj=>aF (χ (Hd++[wm.heap.size]) j 0))=(bD G i).map λj=>aF (χ Hd j 0):=
  List.map_congr_left λj hj=>by rw[bK (by rw[hK.la];exact hK.wf i j hi hj)]
 have en:([I G].map λj=>aF (χ (Hd++[wm.heap.size]) j 0))=[aF wm.t]:=by
  rw[<-hK.la,List.map_cons,List.map_nil,cV]
 obtain⟨He,h1,h2⟩:=hK5.link i zg [I G] zs ob v6 (by rw[et,em,en];exact Hb) (by rw[ev];exact hg) zg;rw[ea] at h1 h2;exact⟨He,_,h1,hM.apart (KH.trans h2),KH.trans h2⟩
theorem cls_fin {wm w6:ω} {xy:Nat->Nat} {n:Nat} {vc vf vr vb:Value} {Ql QN:ζ} {c:θ}
 (hU:eA tag xy w wm) (hK:sU wm xy (Hd++[n]) vs (s.kN++[⟨[],0,false⟩]) (λ_=>false)) (hM:uS wm xy bl bm (s.cL++[c]) (rU++[-1]) fO (Hd++[n]) (s.bE++[I s.kN]) vc vf vr vb Ql QN)
 (i ai:Nat) (hi:i<I s.kN) (P1:I Hd=I s.kN) (xf:ai=χ Hd i 0) (v6:Value) (ob:Obj) (vi:Value) (Rw:vi=χ vs i undef)
 (Hb:w6.r 170 1 v6 (I (bD s.kN i)+1) ((bD s.kN i).map (λj=>aF (χ (Hd++[n]) j 0))++[aF wm.t]))
 (hg:(κ (κ wm (Ω #[ν,ι (I s.cL),φ false,φ false] 172)) ob).grownBy w6 (β vi))
 (qh:β v6=β vi\/β v6=some (κ (κ wm (Ω #[ν,ι (I s.cL),φ false,φ false] 172)) ob).heap.size)
 (S':bC) (hS:S'={(((s.push ⟨[],0,false⟩).push ⟨[],I s.cL,false⟩).link i [I s.kN+1]) with cL:=s.cL++[c],bE:=s.bE++[I s.kN]}):
 LayO tag bl bm Hd (I s.cL) rU fO (I s.kN) S' w (ρ (aF n)) (ς w6 ai.a v6):=by
 have e0:χ (Hd++[n]) i 0=ai:=by rw[bK zo,xf]
 have e1:bD (s.kN++[(⟨[],0,false⟩:cK)]) i=bD s.kN i:=vZ hi;subst Rw;obtain⟨Xs,vs6,F8,Em,Bk⟩:=cls_end hK hM i zg (I s.cL) v6 ob (by rw[e1];exact Hb) hg qh;rw[e0] at F8 Em Bk;subst hS;have el:Hd++[n,wm.t]=Hd++[n]++[wm.heap.size]:=zs
 refine⟨Xs,[n,wm.t],?_,?_,?_,hU.trans (eA.of_k Bk)⟩
 . grind
 . rw[el]
   refine⟨vs6,vc,vf,vr,vb,Ql,QN,?_,?_⟩
   . simpa[bC.push,bC.link] using F8
   simpa[bC.push,bC.link] using Em
 simp[bC.push,bC.link]
theorem zdl (v:Value) (w:ω):(Instr.typeAssert (Δ 240 v) 165 240 true).run prog w=.ok (ϕ #[v,φ true]) w:=by kernel_rfl
theorem lay_cls (c:θ):LayC (.cL c):=by
 intro i p s s' w tag bl bm Hd rU fO v hL Qh qh Yn hT hi qf QW;simp only[aW] at hT;obtain⟨sl,rfl,ym,IU⟩:=hT;obtain⟨so,sn,sc,rfl⟩:∃ so sn sc,sl=τ so sn sc:=by
  rcases aY ym with⟨e,_⟩|⟨g,cap,e,_⟩
  all_goals grind
 obtain⟨vs,vc,vf,vr,vb,Ql,QN,hK,hM⟩:=hL;rw[fE] at qf;by_cases Jv:64<I s.cL
 . rw[zP Jv] at qf;cases qf
 rw[zN Jv] at qf
 cases qf;have l6:=zdl (τ so sn sc);have HK:=zh hK;have HM:=zh hM;have HC:=Θ ym IU;have HB:=zh QW;have HN:=Λ Qh qh Yn;have KS:=bF w bl 0 _ _ _ hM.hl;have J9:=bF w bm 0 _ _ _ hM.hm;simp only[zLa,zLb] at KS J9;have Io:=aY hM.rc;obtain⟨gc,Jc,NL,Gw,ZW⟩:∃ g cap,vc=σ g (I s.cL) cap/\I s.cL<=cap/\g<w.t:=by
  grind
 clear Io hK hM ym IU QW Qh qh;have WJ:=zh NL;obtain⟨ai,xf⟩:=zE (χ Hd i 0);have Fd:=zh xf;rw[<-xf];obtain⟨S',Zr⟩:∃ x:bC,x={(((s.push ⟨[],0,false⟩).push ⟨[],I s.cL,false⟩).link i [I s.kN+1]) with cL:=s.cL++[c],bE:=s.bE++[I s.kN]}:=⟨_,rfl⟩;rw[<-Zr];have HS':=zh Zr;clear xf Zr;have HRC:=zh HM.o.rc;rw[NL] at KS HRC
 have Q5:zH (∀ w1,(κ w (Ω #[τ so sn sc] 240)).g w1 gc->w1.v bm 0 (aF bl)/\w1.v bl 0 (σ gc (I s.cL) Jc)/\w1.q bl 0):=by
  refine zh λw1 hg=> ?_;have hB:=(zBr w.t w).alloc bR (Ω #[τ so sn sc] 240);have tgc:=HM.o.t3 gc (by rw[NL];rfl);have k1:w1.h bm #[aF bl,vb] 163:=(hg.block bm (zLd (aA HM.o.hm) hB.size) (λe=>by cases e;rw[HM.o.tm] at tgc;cases tgc)).trans ((hB.block _ (aA HM.o.hm)).trans HM.o.hm)
  have k2:w1.h bl #[vc,vf,vr] 159:=(hg.block bl (zLd (aA HM.o.hl) hB.size) (λe=>by cases e;rw[HM.o.tl] at tgc;cases tgc)).trans ((hB.block _ (aA HM.o.hl)).trans HM.o.hl);have e1:=bF w1 bm 0 _ _ _ k1;have e2:=bF w1 bl 0 _ _ _ k2;simp only[zLa,zLb] at e1 e2;rw[NL] at e2;exact⟨e1,e2,bN w1 bl 0 _ _ k2⟩
 clear NL;have tN:=zh (Q5.o (κ w (Ω #[τ so sn sc] 240)) (eN _ _));go_in;go_upto_region 7 with fail
 go_cut [] (λwx=>∃ ya v1,kP tag ya 3 bl w wx/\uS wx ya bl bm (s.cL++[c]) rU fO Hd s.bE v1 vf vr vb (Ql++[τ so sn sc]) QN)
 case first=>
  as_aux_lemma=>
  refine zzAl ?_;refine bV (λw'=>w'.v bm 0 (aF bl)/\w'.v bl 0 (σ gc (I s.cL) Jc)) 16 zr ⟨J9,KS⟩ (λHc=> ?_);refine zzAC ?_;refine aE 8 Hc ?_;refine aE 9 Hc ?_;refine aE 10 Hc ?_;refine aE 11 Hc ?_;refine bY 12 (λK hK=> ?_);go_simp;refine hK.out _ _ (λ_=>⟨tN.o.1,tN.o.2.1⟩) ?_;clear hK K Hc;refine zzAF ?_;refine bY 13 (λK hK=> ?_)
  refine mB zr _ _ zr elemClass (σ gc (I s.cL) Jc) (I s.cL) (Ql) zr (by exact (HRC.o.alloc _).drew) w.z 1 1 [τ so sn sc] zr zr (cI w #[τ so sn sc] 240 w.t rfl) zzAU zd zo zd ?_;intro v1 w1 qc QE YI;obtain⟨g1,cap1,rfl⟩:=cH qc;have ks:=Q5.o w1 ⟨QE.os,QE.tape,QE.output,QE.size,QE.block⟩;refine hK.out _ _ (λ_=>⟨ks.1,ks.2.1⟩) ?_;clear hK K;(try simp only[Act.put,lA,lB,lC])
  refine bY 14 (λK hK=> ?_);go_simp;refine hK.out _ _ (λ_=>⟨ks.1,ks.2.1⟩) ?_;clear hK K;refine zzAF ?_;refine bY 15 (λK hK=> ?_);go_simp;refine hK.out _ _ (λ_=>⟨ks.1,ks.2.1⟩) ?_;clear hK K;refine zzAF ?_;obtain⟨ks1,ks2,ks3⟩:=ks;refine bY 16 (λK hK=> ?_);go_simp;refine hK.out _ _ (λh=>absurd rfl h) ?_;clear hK K;refine zzAF ?_;refine zzAg ?_;go_wp2;go_meet
  case rel=>exact HM.o.pushClass (Ω #[τ so sn sc] 240) WJ.o HC.o.1 (λg hg=>(HC.o.2 g hg).1) qc QE YI
 case rest=>
  obtain⟨ya,v1,WX,Sn⟩:=hcut;have HA1:=zh WX;have tJ:=zh Sn;have bj:=zh (WX.kat HK.o zd (by rw[HM.o.tl];decide));clear WX Sn KS J9;obtain⟨gr,capr,NM,hrr1,DH⟩:∃ g cap,vr=σ g (I rU) cap/\I rU<=cap/\g<wc.t:=by
   rcases aY tJ.o.rr with⟨_,h0⟩|h
   . have:=HN.o;omega
   omega
  have HVR:=zh NM;have Km:=zh tJ.o.rr;have KS:=bF wc bl 2 _ _ _ tJ.o.hl;have J9:=bF wc bm 0 _ _ _ tJ.o.hm;simp only[zLa,zLb,zLc] at KS J9;rw[NM] at KS Km;have vk:zH (∀ w1,(κ wc (Ω #[ι (-1)] 3)).g w1 gr->w1.v bm 0 (aF bl)/\w1.v bl 2 (σ gr (I rU) capr)/\w1.q bl 2):=by
   refine zh λw1 hg=> ?_;have hB:=(zBr wc.t wc).alloc bR (Ω #[ι (-1)] 3);have tgc:=tJ.o.t4 gr (by rw[NM];rfl);have k1:=(hg.block bm (zLd (aA tJ.o.hm) hB.size) (λe=>by cases e;rw[tJ.o.tm] at tgc;cases tgc)).trans ((hB.block _ (aA tJ.o.hm)).trans tJ.o.hm);have k2:=(hg.block bl (zLd (aA tJ.o.hl) hB.size) (λe=>by cases e;rw[tJ.o.tl] at tgc;cases tgc)).trans ((hB.block _ (aA tJ.o.hl)).trans tJ.o.hl)
   have e1:=bF w1 bm 0 _ _ _ k1;have e2:=bF w1 bl 2 _ _ _ k2;simp only[zLa,zLb,zLc] at e1 e2;rw[NM] at e2;exact⟨e1,e2,bN w1 bl 2 _ _ k2⟩
  have Cs:I rU+1<=1000000000:=by have:=HN.o;omega
  have LW:=zh (vk.o (κ wc (Ω #[ι (-1)] 3)) (eN _ _));clear NM;go_upto_region 8 with fail
  go_cut [] (λwx=>∃ Qz v2,kP ya Qz 4 bl wc wx/\uS wx Qz bl bm (s.cL++[c]) (rU++[-1]) fO Hd s.bE v1 vf v2 vb (Ql++[τ so sn sc]) QN)
  case first=>
   as_aux_lemma=>
   refine zzAl ?_;refine bV (λw'=>w'.v bm 0 (aF bl)/\w'.v bl 2 (σ gr (I rU) capr)) 15 zr ⟨J9,KS⟩ (λHc=> ?_);refine zzAC ?_;refine aE 8 Hc ?_;refine aE 9 Hc ?_;refine aE 10 Hc ?_;refine bY 11 (λK hK=> ?_);go_simp;refine hK.out _ _ (λ_=>⟨LW.o.1,LW.o.2.1⟩) ?_;clear hK K Hc;refine zzAF ?_;refine bY 12 (λK hK=> ?_)
   refine mB zr _ _ zr oY (σ gr (I rU) capr) (I rU) (rU.map (Value.int .i64)) zr (by exact (Km.o.alloc _).drew) wc.z 1 1 [ι (-1)] zr zr (cI wc #[ι (-1)] 3 wc.t rfl) zd zd Cs zd ?_;intro v1 w1 qc QE YI;obtain⟨g1,cap1,rfl⟩:=cH qc;have ks:=vk.o w1 ⟨QE.os,QE.tape,QE.output,QE.size,QE.block⟩;refine hK.out _ _ (λ_=>⟨ks.1,ks.2.1⟩) ?_;clear hK K;(try simp only[Act.put,lA,lB,lC])
   refine bY 13 (λK hK=> ?_);go_simp;refine hK.out _ _ (λ_=>⟨ks.1,ks.2.1⟩) ?_;clear hK K;refine zzAF ?_;refine bY 14 (λK hK=> ?_);go_simp;refine hK.out _ _ (λ_=>⟨ks.1,ks.2.1⟩) ?_;clear hK K;refine zzAF ?_;obtain⟨ks1,ks2,ks3⟩:=ks;refine bY 15 (λK hK=> ?_);go_simp;refine hK.out _ _ (λh=>absurd rfl h) ?_;clear hK K;refine zzAF ?_;refine zzAg ?_;go_wp2;go_meet
   case rel=>exact tJ.o.pushRule (Ω #[ι (-1)] 3) HVR.o qc QE YI
  case rest=>
   obtain⟨Qz,v2,WY,So⟩:=hcut;have NY:=zh WY;have yr:=zh So;have VX:=zh (WY.kat bj.o zd (by rw[tJ.o.tl];decide));clear WY So KS J9;have tI:=zh (VX.o.push 0 rfl);have C6:=zh (uQ.push Qz wc (Ω #[ν,ι (0:Nat),φ false,φ false] 172) (10+2*I s.kN));have VY:=zh (yr.o.apart (ext:=[wc.heap.size]) C6.o);generalize Jr:κ wc (Ω #[ν,ι (0:Nat),φ false,φ false] 172)=wk at tI C6 VY
   generalize dI Qz wc.heap.size (10+2*I s.kN)=XK at tI C6 VY;have HWK:=zh Jr;clear Jr;go_upto_region 10 with fail
   have Jr:=HWK.o;rw[Int.ofNat_zero] at Jr;rw[Jr];clear Jr;have MW:=bF wk bm 1 _ _ _ VY.o.hm;simp only[zLa,zLb,zLc] at MW;have x6:I s.bE+1<=1000000000:=by have:=HN.o;omega
   have VC:zH (∀ w1,(κ wk (Ω #[aF wc.t] 170)).grownBy w1 (β vb)->w1.v bm 1 vb/\w1.q bm 1/\bm<w1.t):=
    zh λw1 hg=>mJ VY.o.hm (λe=>by have:=VY.o.t5 bm e;rw[VY.o.tm] at this;omega) hg
   go_upto_region 11 with (at_builtin;refine dM rfl jY rfl (by exact (VY.o.rb.alloc _)) [aF wc.t] x6 ?_;intro v4 w4 Hr ql Qu;obtain⟨g4,Hz,rfl⟩:=cH Hr;obtain⟨k1,k2,k3⟩:=VC.o _ ql)
   have Mt:χ (Hd++[wc.heap.size]) (I s.kN) 0=wc.t:=by rw[<-HK.o.la,cV]
   have Ld:=zh Mt;clear Mt;obtain⟨xy,v5,WZ,Zl⟩:=VY.o.pushBehind (w1:=w4) (V:=vb) (j:=I s.kN) (by rw[zLn,HK.o.la];simp) (Ω #[aF wc.t] 170) rfl (by rw[Ld.o];exact Hr) ql Qu;rw[Ld.o] at Zl;have HA4:=zh WZ;have HM4:=zh Zl;have Tn:=zh (WZ.kat tI.o zd (by rw[VY.o.tm];decide));clear WZ Zl Hr ql Qu k1 k2 k3 MW;generalize w4.setCell (bm.p 1) (σ g4 (I s.bE+1) Hz)=wm at HA4 HM4 Tn ⊢
   have V8:I (s.kN++[(⟨[],0,false⟩:cK)])=I s.kN+1:=zs
   have I1:i<I (s.kN++[(⟨[],0,false⟩:cK)]):=by rw[V8];omega
   have UY:χ (Hd++[wc.heap.size]) i 0=ai:=by rw[bK (by rw[HK.o.la];exact hi),Fd.o]
   have Ft:=zh (Tn.o.cell i I1);rw[UY] at Ft;have YQ:=bF wm ai 0 _ _ _ Ft.o;simp only[zLa,zLb] at YQ;have lk0:=aA Ft.o;have PB:=zh (Tn.o.row i I1);have HTV:=zh (Tn.o.tv i · I1);have A2:=zh (Tn.o.ta i I1);rw[UY] at A2;have jj:bD (s.kN++[(⟨[],0,false⟩:cK)]) i=bD s.kN i:=vZ hi;rw[jj] at PB;obtain⟨vi,Rw⟩:=zE (χ (vs++[Value.slice none 0 0]) i undef);rw[<-Rw] at YQ PB HTV Ft;have HVI:=zh Rw
   have NC:I (bD s.kN i)+1<=1000000000:=by
    have h1:=HB.o i;have h2:bD (((s.kN++[(⟨[],0,false⟩:cK)])++[(⟨[],I s.cL,false⟩:cK)]).modify i (qO [I s.kN+1])) i=bD s.kN i++[I s.kN+1]:=by
     rw[xA zg,vZ zo,jj]
    have h3:I ((bD s.kN i)++[I s.kN+1])<=1000000:=by rw[<-h2];exact h1
    simp at h3;omega
   have CH:zH (∀ w1,(κ (κ wm (Ω #[ν,ι (I s.cL),φ false,φ false] 172)) (Ω #[aF wm.t] 170)).grownBy w1 (β vi)->w1.v ai 0 vi/\w1.q ai 0/\ai<w1.t):=by
    refine zh λw1 hg=> ?_;have hb:=(zBr wm.t wm).alloc bR (Ω #[ν,ι (I s.cL),φ false,φ false] 172);exact mJ ((hb.block _ lk0).trans Ft.o) (λe=>by have:=HTV.o ai e;rw[A2.o] at this;omega) hg
   clear UY Rw jj V8;go_wp2_with (at_builtin;refine dM rfl jY rfl (by exact ((PB.o.alloc _).alloc _)) [aF wm.t] NC ?_;intro v6 w6 XU PY TO;obtain⟨g6,XE,rfl⟩:=cH XU;obtain⟨k1,k2,k3⟩:=CH.o _ PY);go_ret
   have hU:eA tag xy w wm:=(eA.of_a HA1.o zd (by rw[HM.o.tl];decide)).trans ((eA.of_a NY.o zd (by rw[tJ.o.tl];decide)).trans ((eA.of_k C6.o).trans (eA.of_a HA4.o zd (by rw[VY.o.tm];decide))));exact cls_fin hU Tn.o HM4.o i ai hi HK.o.la Fd.o _ (Ω #[aF wm.t] 170) vi HVI.o XU PY TO S' HS'.o
theorem zad (v:Value) (w:ω):(Instr.typeAssert (Δ 242 v) 165 240 true).run prog w=.ok (ϕ #[ν,φ false]) w:=by kernel_rfl
theorem zdn (v:Value) (w:ω):(Instr.typeAssert (Δ 242 v) 165 242 true).run prog w=.ok (ϕ #[v,φ true]) w:=by kernel_rfl
theorem zab (v:Value) (w:ω):(Instr.typeAssert (Δ 246 v) 165 240 true).run prog w=.ok (ϕ #[ν,φ false]) w:=by kernel_rfl
theorem zac (v:Value) (w:ω):(Instr.typeAssert (Δ 246 v) 165 242 true).run prog w=.ok (ϕ #[ν,φ false]) w:=by kernel_rfl
theorem sZ (v:Value) (w:ω):(Instr.typeAssert (Δ 246 v) 165 244 true).run prog w=.ok (ϕ #[.agg #[.nilIface,.nilIface],φ false]) w:=by kernel_rfl
theorem zdm (v:Value) (w:ω):(Instr.typeAssert (Δ 246 v) 165 246 true).run prog w=.ok (ϕ #[v,φ true]) w:=by kernel_rfl
theorem zaA (v:Value) (w:ω):(Instr.typeAssert (Δ 244 v) 165 240 true).run prog w=.ok (ϕ #[ν,φ false]) w:=by kernel_rfl
theorem zaB (v:Value) (w:ω):(Instr.typeAssert (Δ 244 v) 165 242 true).run prog w=.ok (ϕ #[ν,φ false]) w:=by kernel_rfl
theorem zaC (v:Value) (w:ω):(Instr.typeAssert (Δ 244 v) 165 244 true).run prog w=.ok (ϕ #[v,φ true]) w:=by kernel_rfl
theorem zaP (t:aL) (l:List aL) (i:Nat) (s:bC):qL (t::l) i s=match fE t i s with|none=>none|some (p,s2)=>qL l p s2:=by rfl
def bW (s s':bC):Prop:=I s.kN<=I s'.kN/\I s.cL<=I s'.cL/\I s'.bE+I s.cL=I s.bE+I s'.cL/\∀ k,I (bD s.kN k)<=I (bD s'.kN k)
theorem bW.refl (s:bC):bW s s:=⟨bR,bR,rfl,λ_=>bR⟩
theorem bW.trans {a b c:bC} (h:bW a b) (k:bW b c):bW a c:=by
 obtain⟨h1,h2,h3,h4⟩:=h;obtain⟨k1,k2,k3,k4⟩:=k;exact⟨zo,zo,zo,λi=>zT (h4 i) (k4 i)⟩
theorem bW.push (s:bC) (k:cK):bW s (s.push k):=by
 refine⟨by simp[bC.push],bR,rfl,λi=> ?_⟩;show I (bD s.kN i)<=I (bD (s.kN++[k]) i)
 grind [bD]
theorem bW.link (s:bC) (i:Nat) (l:ο):bW s (s.link i l):=by
 refine⟨by simp[bC.link],bR,rfl,λj=> ?_⟩;show I (bD s.kN j)<=I (bD (s.kN.modify i (qO l)) j)
 grind [xA,bD]
mutual
theorem iD:∀ (t:aL) (i p:Nat) (s s':bC),fE t i s=some (p,s')->bW s s'
 | .cL c,i,p,s,s',h=>by
  rw[fE] at h;split at h
  . cases h
  . cases h
    have h1:=((bW.push s ⟨[],0,false⟩).trans (bW.push _ ⟨[],I s.cL,false⟩)).trans (bW.link _ i [I s.kN+1]);exact⟨h1.1,zs,zg,h1.2.2.2⟩
 | .row l,i,p,s,s',h=>by
  rw[fE] at h;exact zbh l i p s s' h
 | .either a b,i,p,s,s',h=>by
  rw[fE] at h;split at h
  . cases h
  . rename_i p1 s2 e1
    split at h
    . cases h
    . rename_i q s3 e2
      cases h;have h0:=(((bW.push s ⟨[],0,false⟩).trans (bW.push _ ⟨[],0,false⟩)).trans (bW.push _ ⟨[],0,false⟩)).trans (bW.link _ i [I s.kN,I s.kN+1]);exact h0.trans ((iD a _ _ _ _ e1).trans ((iD b _ _ _ _ e2).trans ((bW.link _ _ _).trans (bW.link _ _ _))))
 | .rep t m o,i,p,s,s',h=>by
  rw[fE] at h;split at h
  . cases h
  rename_i p1 s2 e1
  cases h;have h0:=((bW.push s ⟨[],0,false⟩).trans (bW.push _ ⟨[],0,false⟩)).trans (bW.link _ i [I s.kN]);refine h0.trans ((iD t _ _ _ _ e1).trans ?_);cases o<;>by_cases hm:m=0<;>simp only[hm,if_true,if_false,Bool.false_eq_true]
  . exact ((bW.link _ _ _).trans (bW.link _ _ _)).trans (bW.link _ _ _)
  . exact (bW.link _ _ _).trans (bW.link _ _ _)
  . exact (bW.link _ _ _).trans (bW.link _ _ _)
  exact bW.link _ _ _
theorem zbh:∀ (l:List aL) (i p:Nat) (s s':bC),qL l i s=some (p,s')->bW s s'
 | [],i,p,s,s',h=>by
  grind [qL,bW.refl]
 | t::l,i,p,s,s',h=>by
  rw[zaP] at h;cases e:fE t i s with
  | none=>grind
  | some x=>
   obtain⟨q,s2⟩:=x;rw[e] at h;exact (iD t _ _ _ _ e).trans (zbh l _ _ _ _ h)
end
theorem zeG (rU:List Int) (a b c:Nat) (h1:a<=b) (h2:b<=c):(rU++ψ (b-a) (-1:Int))++ψ (c-b) (-1)=rU++ψ (c-a) (-1):=by
 grind [List.replicate_append_replicate]
structure RowSt (l:List aL) (p:Nat) (s s':bC) (tag:Nat->Nat) (bl bm:Nat) (Hd:ο) (rU:List Int) (fO:List aZ) (w:ω) (k pk:Nat) (sk:bC) (qj:Nat->Nat) (ext:ο) (wr:ω):Prop where
 lay:jC wr qj bl bm (Hd++ext) sk (rU++ψ (I sk.cL-I s.cL) (-1)) fO
 lt:pk<I sk.kN
 upd:eA tag qj w wr
 rest:qL (l.drop k) pk sk=some (p,s')
 later:bW s sk
theorem lay_row (l:List aL) (ih:∀ t∈l,LayC t):LayC (.row l):=by
 intro i p s s' w tag bl bm Hd rU fO v hL Qh qh Yn hT hi qf QW;rw[fE] at qf;simp only[aW] at hT;obtain⟨sl,vs,rfl,h2,h3,h4⟩:=hT;have IH:=zh ih;have HN:=Λ Qh qh Yn;have jh:RowSt l p s s' tag bl bm Hd rU fO w 0 i s tag [] w:=⟨by simpa using hL,hi,eA.refl _ _,zg,bW.refl _⟩;have yn:=aY h2;have ni:(I l:Int)<=9223372036854775807:=by
  exact zzBB
 obtain⟨ai,xf⟩:=zE (χ Hd i 0);rw[<-xf];clear ih hL Qh qh qf;have Ap:=λv=>zad v;have CN:=λv=>zdn v
 rcases yn with⟨rfl,hn⟩|⟨g,cap,rfl,Xi,hg⟩
 . have QZ:l=[]:=List.eq_nil_of_length_eq_zero hn
   subst QZ;have hr:=jh.rest;simp only[List.drop_nil,qL] at hr;cases hr;go_in;go_wp2;refine zzAZ ?_;go_wp2;go_ret;exact⟨tag,[],by rw[List.append_nil,<-xf];rfl,by simpa using jh.lay,hi,eA.refl _ _⟩
 go_in
 go_wp2_with fail;go_loopw [2,99] (λs2 s99 wr=>∃ (k pk:Nat) (sk:bC) (qj:Nat->Nat) (ext:ο) (ak:Nat),s99=ι k/\k<=I l/\s2=aF ak/\ak=χ (Hd++ext) pk 0/\RowSt l p s s' tag bl bm Hd rU fO w k pk sk qj ext wr) (λ_ s99 _=>I l-(ϑ s99).toNat)
 case atStart=>exact⟨0,i,s,tag,[],ai,rfl,zo,rfl,by rw[List.append_nil];exact xf,jh⟩
 case round=>
  obtain⟨k,pk,sk,qj,ext,ak,rfl,hk,rfl,Pd,hR⟩:=hrel;have tG:=zh Pd;clear Pd;by_cases Hf:k<I l
  . have hz:=zt k (I l)
    obtain⟨t,ht⟩:=zG l k Hf;obtain⟨u,hu,DS⟩:=h4.get k t ht;have Yh:l.drop k=t::l.drop (k+1):=by rw[List.drop_eq_getElem_cons Hf];congr 1;rw[zLe Hf] at ht;exact zO ht
    have Ha:=hR.rest;rw[Yh,zaP] at Ha;cases hx:fE t pk sk with
    | none=>rw[hx] at Ha;cases Ha
    | some qs=>
     obtain⟨q,s2⟩:=qs;rw[hx] at Ha;simp only at Ha;have DT:=aW.upd hR.upd DS;have kx:wr.v g k u:=by
      have Hb:wr.r 165 1 (σ g (I l) cap) (I l) vs:=aU h2 λb hb=>hR.upd.keep b (h3 b hb).2 (.inr (h3 b hb).1);exact aJ Hb _ _ hu
     obtain⟨x,rfl,_⟩:=kE t u _ wr DT;have VN:=zbh _ _ _ _ _ Ha;have kz:=iD _ _ _ _ _ hx;have Hj:=IH.o t (zM ht) pk q sk s2 wr qj bl bm (Hd++ext) (rU++ψ (I sk.cL-I s.cL) (-1)) fO _ hR.lay
      (by have:=HN.o;have:=hR.later;unfold bW at this;grind) zzDE zzDE DT hR.lt hx
      (λj=>zT (VN.2.2.2 j) (QW j))
     rw[<-tG.o] at Hj;clear DS Yh ht hu;go_wp2_with fail;refine Hj.mono ?_;rintro e w2 ⟨Qz,ext2,rfl,Ux,hq,Bj⟩;obtain⟨a2,TL⟩:∃ y,y=χ (Hd++ext++ext2) q 0:=⟨_,rfl⟩;rw[<-TL];have NY:=zh TL;clear TL;go_wp2;go_roundw
     case rel=>
      refine⟨k+1,q,s2,Qz,ext++ext2,a2,by go_num,zo,rfl,by rw[<-List.append_assoc];exact NY.o,?_,hq,hR.upd.trans Bj,Ha,hR.later.trans kz⟩;have Q9:=Ux;rw[zeG rU _ _ _ (hR.later.2.1) kz.2.1] at Q9;rw[<-List.append_assoc];exact Q9
     case measure=>exact zY
  have hz:=zn k (I l)
  have XR:k=I l:=zo
  have hr:=hR.rest;rw[XR,List.drop_length,qL] at hr;cases hr;go_wp2;go_ret;exact⟨qj,ext,by rw[<-tG.o];rfl,hR.lay,hR.lt,hR.upd⟩
structure Ready (w:ω) (tag:Nat->Nat) (Hd:ο) (G:List cK) (i ai:Nat) (vi:Value):Prop where
 cell:w.v ai 0 vi
 free:w.q ai 0
 lt:ai<w.t
 row:w.r 170 1 vi (I (bD G i)) ((bD G i).map λj=>aF (χ Hd j 0))
 kept:∀ ob w1,(κ w ob).grownBy w1 (β vi)->w1.v ai 0 vi/\w1.q ai 0/\ai<w1.t
theorem sU.ready {seen:Nat->Bool} (h:sU w tag Hd vs G seen) (i:Nat) (hi:i<I G):Ready w tag Hd G i (χ Hd i 0) (χ vs i undef):=by
 have hc:=h.cell i hi;have h0:=bF w (χ Hd i 0) 0 _ _ _ hc;simp only[zLa,zLb] at h0;refine⟨h0,bN w _ 0 _ _ hc,aA hc,h.row i hi,λob w1 hg=> ?_⟩;exact mJ hc (λe=>by have:=h.tv i _ hi e;rw[h.ta i hi] at this;omega) hg
structure iA (tag:Nat->Nat) (bl bm:Nat) (w:ω) (s:bC) (rU:List Int) (fO:List aZ) (Hd:ο) (qj:Nat->Nat) (wr:ω):Prop where
 lay:jC wr qj bl bm Hd s rU fO
 upd:eA tag qj w wr
theorem iA.push (h:iA tag bl bm w s rU fO Hd qj wr):
 ∃ He,iA tag bl bm w (s.push ⟨[],0,false⟩) rU fO (Hd++[wr.heap.size]) He (κ wr (Ω #[ν,ι 0,φ false,φ false] 172)):=by
 obtain⟨vs,vc,vf,vr,vb,Ql,QN,hK,hM⟩:=h.lay;have hU:=uQ.push qj wr (Ω #[ν,ι (0:Nat),φ false,φ false] 172) (10+2*I s.kN);exact⟨_,⟨⟨_,vc,vf,vr,vb,Ql,QN,hK.push 0 rfl,hM.apart hU⟩,h.upd.trans (eA.of_k hU)⟩⟩
theorem iA.len (h:iA tag bl bm w s rU fO Hd qj wr):I Hd=I s.kN:=by
 obtain⟨_,_,_,_,_,_,_,hK,_⟩:=h.lay;exact hK.la
theorem iA.ready (h:iA tag bl bm w s rU fO Hd qj wr) (i:Nat) (hi:i<I s.kN):
 ∃ vi,Ready wr qj Hd s.kN i (χ Hd i 0) vi/\∀ (l:ο),(∀ j∈l,j<I s.kN)->∀ (ob:Obj) (w1:ω) (v':Value),w1.r 170 1 v' (I (bD s.kN i)+I l) ((bD s.kN i).map (λj=>aF (χ Hd j 0))++l.map λj=>aF (χ Hd j 0))->
  (κ wr ob).grownBy w1 (β vi)->(β v'=β vi\/β v'=some (κ wr ob).heap.size)->∃ He,iA tag bl bm w (s.link i l) rU fO Hd He (ς w1 (χ Hd i 0).a v'):=by
 obtain⟨vs,vc,vf,vr,vb,Ql,QN,hK,hM⟩:=h.lay;refine⟨_,hK.ready i hi,λl hl ob w1 v' Hb hg qh=> ?_⟩;obtain⟨He,h1,h2⟩:=hK.link i hi l hl ob v' Hb hg qh;exact⟨He,⟨⟨_,vc,vf,vr,vb,Ql,QN,h1,by have:=hM.apart (ext:=[]) h2;rwa [List.append_nil] at this⟩,h.upd.trans (eA.of_k h2)⟩⟩
theorem iA.alloc0 (h:iA tag bl bm w s rU fO Hd qj wr) (o:Obj):
 iA tag bl bm w s rU fO Hd (dI qj wr.t 0) (κ wr o):=by
 obtain⟨vs,vc,vf,vr,vb,Ql,QN,hK,hM⟩:=h.lay;have hk:=uQ.push qj wr o 0;have hb:=(zBr wr.t wr).alloc bR o;refine⟨⟨vs,vc,vf,vr,vb,Ql,QN,hK.apart hk.tags λb hx _=>hb.block b hx,by have:=hM.apart (ext:=[]) hk;grind⟩,h.upd.trans (eA.of_k hk)⟩
theorem iA.push2 (h:iA tag bl bm w s rU fO Hd qj wr):
 ∃ He,iA tag bl bm w (s.push ⟨[],0,false⟩) rU fO (Hd++[wr.heap.size]) He (κ wr (Ω #[ν,ι 0,φ false,φ false] 172))/\∀ b,b<wr.heap.size->He b=qj b:=by
 obtain⟨vs,vc,vf,vr,vb,Ql,QN,hK,hM⟩:=h.lay;have hU:=uQ.push qj wr (Ω #[ν,ι (0:Nat),φ false,φ false] 172) (10+2*I s.kN);exact⟨_,⟨⟨_,vc,vf,vr,vb,Ql,QN,hK.push 0 rfl,hM.apart hU⟩,h.upd.trans (eA.of_k hU)⟩,hU.tags⟩
theorem zcp {XK tagz:Nat->Nat} {n0 c3 c4 p:Nat} {w3 wz:ω} {s':bC} {VH:ο} (h:iA XK bl bm w3 s' (rU++ψ (c4-c3) (-1)) fO VH tagz wz) (hU:eA tag XK w w3)
 (he:∃ ext,VH=Hd++ext) (Sx:I s'.cL=c4) (Bm:c3=n0) (hp:p<I s'.kN) (b:Nat) (hb:b=χ VH p 0):LayO tag bl bm Hd n0 rU fO p s' w (ρ (aF b)) wz:=by
 obtain⟨ext,rfl⟩:=he;subst Sx Bm hb;exact⟨tagz,ext,rfl,h.lay,hp,hU.trans h.upd⟩
theorem lay_rep (t:aL) (m:Int) (o:Bool) (ih:LayC t):LayC (.rep t m o):=by
 intro i p s s' w tag bl bm Hd rU fO v hL Qh qh Yn hT hi qf QW;rw[fE] at qf;simp only[aW] at hT;obtain⟨u,rfl,hu⟩:=hT;obtain⟨x,rfl,_⟩:=kE t u _ w hu;obtain⟨ai,xf⟩:=zE (χ Hd i 0);rw[<-xf];have Ap:=λv=>zab v;have CN:=λv=>zac v;have Bl:=λv=>sZ v;have TN:=λv=>zdm v;have N0:iA tag bl bm w s rU fO Hd tag w:=⟨hL,eA.refl _ _⟩;have Ho:=N0.len;have N1:=N0.alloc0 (Ω #[Δ (fU t) x,ι m,φ o] 246)
 obtain⟨Qz,N2,Xy⟩:=N1.push2;obtain⟨XK,N3,Vu⟩:=N2.push2;obtain⟨n,hn⟩:=zE (I s.kN);obtain⟨st,Hh⟩:=zE (w.heap.size);obtain⟨S2,Q7⟩:=zE ((s.push ⟨[],0,false⟩).push ⟨[],0,false⟩);obtain⟨qi,Qb⟩:=zE (Hd++[(κ w (Ω #[Δ (fU t) x,ι m,φ o] 246)).heap.size]++[(κ (κ w (Ω #[Δ (fU t) x,ι m,φ o] 246)) (Ω #[ν,ι 0,φ false,φ false] 172)).heap.size])
 obtain⟨w3,yj⟩:=zE (κ (κ (κ w (Ω #[Δ (fU t) x,ι m,φ o] 246)) (Ω #[ν,ι 0,φ false,φ false] 172)) (Ω #[ν,ι 0,φ false,φ false] 172));rw[<-Qb,<-yj,<-Q7] at N3;have M0:iA XK bl bm w3 S2 rU fO qi XK w3:=⟨N3.lay,eA.refl _ _⟩;have U3:=N3.upd;have KG:I S2.kN=n+2:=by rw[Q7,hn];simp[bC.push]
 have CS:=M0.len;have sto:w3.h st #[Δ (fU t) x,ι m,φ o] 246:=by
  rw[yj,Hh,aV,zN zx,aV,zN zs,aV,zP rfl]
 have stt:XK st=0:=by
  rw[Vu st zzCb,Xy st (by simp[Hh]),Hh];simp[dI]
 have stl:st<w3.t:=aA sto;have kA:st+1=χ qi n 0:=by
  rw[Qb,bK zg,hn,<-Ho,cV,Hh];simp
 have kB:st+1+1=χ qi (n+1) 0:=by
  exact zzB4
 have aI:ai=χ qi i 0:=by
  rw[Qb,bK zg,bK zo];exact xf
 rw[<-hn,<-Q7] at qf;obtain⟨S3,Xh⟩:=zE (S2.link i [n]);have L3:=bW.link S2 i [n];rw[<-Xh] at qf L3;cases hx:fE t n S3 with
 | none=>rw[hx] at qf;cases qf
 | some pq=>
 obtain⟨p1,S4⟩:=pq;rw[hx] at qf;simp only[Option.some.injEq,Prod.mk.injEq] at qf;obtain⟨rfl,xx⟩:=qf;have L4:=iD _ _ _ _ _ hx;obtain⟨S5,dx⟩:=zE (S4.link p1 [n+1]);have L5:=bW.link S4 p1 [n+1];rw[<-dx] at xx L5;obtain⟨S6,Ao⟩:=zE ((if o=true then S5 else S5.link p1 [n]));have L6:bW S5 S6:=by rw[Ao];split;exact bW.refl _;exact bW.link _ _ _
 rw[<-Ao] at xx;have L7:bW S6 s':=by rw[<-xx];split;exact bW.link _ _ _;exact bW.refl _
 have PF:=zh (aW.upd U3 hu);have AV:=zh M0;have Ur:=zh U3;have Hl:=Λ sto stt stl;have Tg:=zh aI;have Yj:i<I S2.kN:=by rw[KG];omega
 have HL:=Λ Yj (show n<S2.kN.length by omega) (show n+1<S2.kN.length by omega);have yk:=Ψ L3 L4 L5 (zAi L6 L7);have HS:=Ψ Xh dx Ao xx;have HX:=zh hx;have HB:=zh QW;have HN:=Λ Qh qh Yn;have YY:=zh (show S2.cL=s.cL/\S2.bE=s.bE by rw[Q7];exact⟨rfl,rfl⟩);have Fj:=zh (show ∃ ext,qi=Hd++ext from⟨_,by rw[Qb,List.append_assoc]⟩)
 obtain⟨a1,KI⟩:∃ y,y=st+1:=⟨_,rfl⟩;obtain⟨b1,KL⟩:∃ y,y=st+1+1:=⟨_,rfl⟩;have AU:=zh (show a1=qi.getD n 0 by omega);have ed:=zh (show b1=qi.getD (n+1) 0 by omega);have Y0:=Ψ yj Hh KI KL;clear yj Hh KI KL kA kB M0 U3 sto stt stl aI xf Yj L3 L4 L5 L6 L7 Xh dx Ao xx hx QW Qh qh Yn N0 N1 N2 N3 Xy Vu CS hu Q7 KG Qb Ho hn hL;go_in;go_upto_region 34 with fail
 rw[<-Y0.o.1,<-Y0.o.2.1,<-Y0.o.2.2.1,<-show b1=a1+1 by rw[Y0.o.2.2.2,Y0.o.2.2.1]];clear Ap CN Bl TN;obtain⟨vi1,Yt,XF⟩:=AV.o.ready i HL.o.1;rw[<-Tg.o] at Yt XF;have c1:=Yt.cell;have TB:=zh Yt.row;have Tp:=zh Yt.kept;have Tq:=zh XF;have KQ:I (bD S2.kN i)+1<=1000000000:=(by have h0:=HB.o i;have h:=yk.o;grind [bW]);clear Yt XF
 go_upto_region 35 with (at_builtin;refine dM rfl jY rfl zzCo [aF a1] KQ ?_;intro va1 wa1 vd X8 KM;obtain⟨ga1,ca1,rfl⟩:=cH vd;obtain⟨ka1,kb1,kc1⟩:=Tp.o _ _ X8)
 obtain⟨Tf,yu⟩:=Tq.o [n] (λj hj=>by rw[zMs] at hj;subst hj;exact HL.o.2.1) (Ω #[aF a1] 170) wa1 _ zzB5 X8 KM;have QO:=zh yu;clear yu vd X8 KM ka1 kb1 kc1 c1 KQ;generalize wa1.setCell ai.a (σ ga1 (I (bD S2.kN i)+1) ca1)=Ps at QO ⊢;have yu:=QO.o;rw[<-HS.o.1] at yu;have Yo:=(yu.upd.keep st Hl.o.2.2 (.inl Hl.o.2.1)).trans Hl.o.1
 have d0:Ps.v st 0 (Δ (fU t) x):=by have h0:=zQ 0 Yo;simpa using h0
 have Hj:=ih n p1 S3 S4 Ps Tf bl bm qi rU fO _ yu.lay (by have h:=yk.o.1;unfold bW at h;have:=HN.o;have:=YY.o;rw[HS.o.1];grind [bC.link])
  zzDJ zzDJ
  (aW.upd yu.upd PF.o) zzDO HX.o
  (λk=>by have h0:=HB.o k;have h:=yk.o;grind [bW])
 rw[<-AU.o] at Hj;have qw:=zh Hj;have FE:=zh yu;clear Hj yu Yo;go_wp2_with fail;refine qw.o.mono ?_;rintro e w5 ⟨yq,Xg,rfl,A9,Ta,KH⟩;have QZ:=AV.o.len;obtain⟨VH,Jx⟩:=zE (qi++Xg);obtain⟨ap,PN⟩:=zE (χ VH p1 0);rw[<-Jx] at A9;rw[<-Jx,<-PN];have HP:=zh PN;have Fs:=zh (show a1=VH.getD n 0 by rw[Jx,bK (by rw[QZ];exact HL.o.2.1)];exact AU.o)
 have To:=zh (show b1=VH.getD (n+1) 0 by rw[Jx,bK (by rw[QZ];exact HL.o.2.2)];exact ed.o);have Ac:=zh (show ∃ ext,VH=Hd++ext by obtain⟨e,he⟩:=Fj.o;exact⟨e++Xg,by rw[Jx,he,List.append_assoc]⟩);have CE:=zh (show iA XK bl bm w3 S4 (rU++ψ (I S4.cL-I S3.cL) (-1)) fO VH yq w5 from⟨A9,FE.o.upd.trans KH⟩);have LP:=zh Ta;have um:=zh (show n+1<S4.kN.length by have h:=yk.o;have:=HL.o;unfold bW at h;omega)
 clear PN QZ A9 KH Ta Jx d0;obtain⟨vi2,K9,TY⟩:=CE.o.ready p1 LP.o;rw[<-HP.o] at K9 TY;have c2:=K9.cell;have FK:=zh K9.row;have Fv:=zh K9.kept;have Fz:=zh TY;have UO:I (bD S4.kN p1)+1<=1000000000:=(by have h0:=HB.o p1;have h:=yk.o;unfold bW at h;have:=h.2.2.1.2.2.2 p1;have h4:=h.2.2.2.1.2.2.2 p1;have h5:=h.2.2.2.2.2.2.2 p1;omega);clear K9 TY
 go_upto_region 37 with (at_builtin;refine dM rfl jY rfl (by exact (FK.o.alloc _)) [aF b1] UO ?_;intro va2 wa2 T7 TT UG;obtain⟨ga2,ca2,rfl⟩:=cH T7;obtain⟨ka2,kb2,kc2⟩:=Fv.o _ _ TT)
 obtain⟨tg2,Bg⟩:=Fz.o [(n+1)] (λj hj=>by rw[zMs] at hj;subst hj;exact um.o) (Ω #[aF b1] 170) wa2 _ (by rw[show ([(n+1)].map λj=>aF (χ VH j 0))=[aF b1] from congrArg (λz=>[aF z]) To.o.symm];exact T7) TT UG;have Q4:=zh Bg;clear Bg T7 TT UG ka2 kb2 kc2 c2 UO;generalize wa2.setCell ap.a (σ ga2 (I (bD S4.kN p1)+1) ca2)=wn2 at Q4 ⊢;have IQ:=Q4.o;rw[<-HS.o.2.1] at IQ;have sh:=zh IQ;clear IQ;cases o with
 | true=>
  have Hh:=(sh.o.upd.keep st Hl.o.2.2 (.inl Hl.o.2.1)).trans Hl.o.1;have d2:wn2.v st 2 (φ true):=by have h0:=zQ 2 Hh;simpa using h0
  have d1:wn2.i st 1 m:=by have h0:=zQ 1 Hh;simpa using h0
  clear Hh;have h6:=HS.o.2.2.1;rw[zP rfl] at h6;have ep:=sh;rw[<-h6] at ep;have H6:=zh h6;clear h6;by_cases hm:m=0
  . have HM:=zh hm
    obtain⟨vi3,ja,TZ⟩:=ep.o.ready n zzAQ;rw[<-Fs.o] at ja TZ;have c3:=ja.cell;have PD:=zh ja.row;have Fw:=zh ja.kept;have FA:=zh TZ;have UP:I (bD S6.kN n)+1<=1000000000:=(by have h0:=HB.o n;have h:=yk.o;unfold bW at h;have h5:=h.2.2.2.2.2.2.2 n;omega);clear ja TZ
    go_wp2_with (at_builtin;refine dM rfl jY rfl (by exact (PD.o.alloc _)) [aF b1] UP ?_;intro va3 wa3 T8 TU UH;obtain⟨ga3,ca3,rfl⟩:=cH T8;obtain⟨ka3,kb3,kc3⟩:=Fw.o _ _ TU)
    obtain⟨tg3,Me⟩:=FA.o [(n+1)] (λj hj=>by rw[zMs] at hj;subst hj;exact zzAQ) (Ω #[aF b1] 170) wa3 _ (by rw[show ([(n+1)].map λj=>aF (χ VH j 0))=[aF b1] from congrArg (λz=>[aF z]) To.o.symm];exact T8) TU UH;have Kl:=zh Me;clear Me T8 TU UH ka3 kb3 kc3 c3 UP;generalize wa3.setCell a1.a (σ ga3 (I (bD S6.kN n)+1) ca3)=wn3 at Kl ⊢;go_ret;have xx:=HS.o.2.2.2;rw[zP HM.o] at xx
    exact zcp (s':=s') (b:=b1) (xx▸Kl.o) Ur.o Ac.o zzBE zzBm zzAQ To.o
  . have HM:=zh hm
    go_wp2;go_ret;have xx:=HS.o.2.2.2;rw[zN HM.o] at xx;exact zcp (s':=s') (b:=b1) (xx▸ep.o) Ur.o Ac.o zzBE zzBm zzAQ To.o
 | false=>
  have Hh:=(sh.o.upd.keep st Hl.o.2.2 (.inl Hl.o.2.1)).trans Hl.o.1;have d2:wn2.v st 2 (φ false):=by have h0:=zQ 2 Hh;simpa using h0
  have d1:wn2.i st 1 m:=by have h0:=zQ 1 Hh;simpa using h0
  clear Hh;obtain⟨vi4,Np,GW⟩:=sh.o.ready p1 zzDU;rw[<-HP.o] at Np GW;have c4:=Np.cell;have Wx:=zh Np.row;have wZ:=zh Np.kept;have Wd:=zh GW;have MJ:I (bD S5.kN p1)+1<=1000000000:=(by have h0:=HB.o p1;have h:=yk.o;unfold bW at h;have h4:=h.2.2.2.1.2.2.2 p1;have h5:=h.2.2.2.2.2.2.2 p1;omega);clear Np GW
  go_upto_region 39 with (at_builtin;refine dM rfl jY rfl (by exact (Wx.o.alloc _)) [aF a1] MJ ?_;intro va4 wa4 ir GG MB;obtain⟨ga4,ca4,rfl⟩:=cH ir;obtain⟨ka4,kb4,kc4⟩:=wZ.o _ _ GG)
  obtain⟨tg4,hN4⟩:=Wd.o [n] (λj hj=>by rw[zMs] at hj;subst hj;exact zzAQ) (Ω #[aF a1] 170) wa4 _ (by rw[show ([n].map λj=>aF (χ VH j 0))=[aF a1] from congrArg (λz=>[aF z]) Fs.o.symm];exact ir) GG MB;have LH:=zh hN4;clear hN4 ir GG MB ka4 kb4 kc4 c4 MJ;generalize wa4.setCell ap.a (σ ga4 (I (bD S5.kN p1)+1) ca4)=wn4 at LH ⊢;have Eo:=LH.o;have h6:=HS.o.2.2.1
  rw[zN zd] at h6;rw[<-h6] at Eo;have Ag:=zh Eo;have H6:=zh h6;clear h6 Eo d2 d1;have Hh:=(Ag.o.upd.keep st Hl.o.2.2 (.inl Hl.o.2.1)).trans Hl.o.1;have d2:wn4.v st 2 (φ false):=by have h0:=zQ 2 Hh;simpa using h0
  have d1:wn4.i st 1 m:=by have h0:=zQ 1 Hh;simpa using h0
  clear Hh;by_cases hm:m=0
  . have HM:=zh hm
    obtain⟨vi5,Nq,GX⟩:=Ag.o.ready n zzAQ;rw[<-Fs.o] at Nq GX;have c5:=Nq.cell;have dc:=zh Nq.row;have Wa:=zh Nq.kept;have We:=zh GX;have MK:I (bD S6.kN n)+1<=1000000000:=(by have h0:=HB.o n;have h:=yk.o;unfold bW at h;have h5:=h.2.2.2.2.2.2.2 n;omega);clear Nq GX
    go_wp2_with (at_builtin;refine dM rfl jY rfl (by exact (dc.o.alloc _)) [aF b1] MK ?_;intro va5 wa5 iu GH MC;obtain⟨ga5,ca5,rfl⟩:=cH iu;obtain⟨ka5,kb5,kc5⟩:=Wa.o _ _ GH)
    obtain⟨tg5,IP⟩:=We.o [(n+1)] (λj hj=>by rw[zMs] at hj;subst hj;exact zzAQ) (Ω #[aF b1] 170) wa5 _ (by rw[show ([(n+1)].map λj=>aF (χ VH j 0))=[aF b1] from congrArg (λz=>[aF z]) To.o.symm];exact iu) GH MC;have CE:=zh IP;clear IP iu GH MC ka5 kb5 kc5 c5 MK;generalize wa5.setCell a1.a (σ ga5 (I (bD S6.kN n)+1) ca5)=wn5 at CE ⊢;go_ret;have xx:=HS.o.2.2.2;rw[zP HM.o] at xx
    exact zcp (s':=s') (b:=b1) (xx▸CE.o) Ur.o Ac.o zzBE zzBm zzAQ To.o
  have HM:=zh hm
  go_wp2;go_ret;have xx:=HS.o.2.2.2;rw[zN HM.o] at xx;exact zcp (s':=s') (b:=b1) (xx▸Ag.o) Ur.o Ac.o zzBE zzBm zzAQ To.o
theorem iA.drew (h:iA tag bl bm w s rU fO Hd qj wr):iA tag bl bm w s rU fO Hd qj wr.drew:=by
 obtain⟨vs,vc,vf,vr,vb,Ql,QN,hK,hM⟩:=h.lay;have hb:=(zBr wr.t wr).drew;have hk:=uQ.below (tag:=qj) hb;exact⟨⟨vs,vc,vf,vr,vb,Ql,QN,hK.below hb,by have:=hM.apart (ext:=[]) hk;grind⟩,h.upd.trans (eA.of_k hk)⟩
theorem ziG (ta tb:aL) (jv:LayC ta) (ihb:LayC tb):LayC (.either ta tb):=by
 intro i p s s' w tag bl bm Hd rU fO v hL Qh qh Yn hT hi qf QW;rw[fE] at qf;simp only[aW] at hT;obtain⟨ua,ub,rfl,Ih,AK⟩:=hT;obtain⟨xa,rfl,_⟩:=kE ta ua _ w Ih;obtain⟨xb,rfl,_⟩:=kE tb ub _ w AK;obtain⟨ai,xf⟩:=zE (χ Hd i 0);rw[<-xf];have Ap:=λv=>zaA v;have CN:=λv=>zaB v;have Bl:=λv=>zaC v;have N0:iA tag bl bm w s rU fO Hd tag w:=⟨hL,eA.refl _ _⟩;have Ho:=N0.len
 have N1:=N0.alloc0 (Ω #[Δ (fU ta) xa,Δ (fU tb) xb] 244);obtain⟨Qz,N2,Xy⟩:=N1.push2;obtain⟨XK,N3,Vu⟩:=N2.push2;obtain⟨xy,N4,E8⟩:=N3.push2;obtain⟨n,hn⟩:=zE (I s.kN);obtain⟨st,Hh⟩:=zE (w.heap.size);obtain⟨S2,Q7⟩:=zE (((s.push ⟨[],0,false⟩).push ⟨[],0,false⟩).push ⟨[],0,false⟩)
 obtain⟨qi,Qb⟩:=zE (Hd++[(κ w (Ω #[Δ (fU ta) xa,Δ (fU tb) xb] 244)).heap.size]++[(κ (κ w (Ω #[Δ (fU ta) xa,Δ (fU tb) xb] 244)) (Ω #[ν,ι 0,φ false,φ false] 172)).heap.size]++[(κ (κ (κ w (Ω #[Δ (fU ta) xa,Δ (fU tb) xb] 244)) (Ω #[ν,ι 0,φ false,φ false] 172)) (Ω #[ν,ι 0,φ false,φ false] 172)).heap.size])
 obtain⟨w3,yj⟩:=zE (κ (κ (κ (κ w (Ω #[Δ (fU ta) xa,Δ (fU tb) xb] 244)) (Ω #[ν,ι 0,φ false,φ false] 172)) (Ω #[ν,ι 0,φ false,φ false] 172)) (Ω #[ν,ι 0,φ false,φ false] 172));rw[<-Qb,<-yj,<-Q7] at N4;have M0:iA xy bl bm w3 S2 rU fO qi xy w3:=⟨N4.lay,eA.refl _ _⟩;have U3:=N4.upd;have KG:I S2.kN=n+3:=by rw[Q7,hn];simp[bC.push]
 have CS:=M0.len;have sto:w3.h st #[Δ (fU ta) xa,Δ (fU tb) xb] 244:=by
  rw[yj,Hh,aV,zN zx,aV,zN zx,aV,zN zs,aV,zP rfl]
 have stt:xy st=0:=by
  rw[E8 st zzCb,Vu st zzCb,Xy st (by simp[Hh]),Hh];simp[dI]
 have stl:st<w3.t:=aA sto;have kA:st+1=χ qi n 0:=by
  rw[Qb,bK zg,bK zg,hn,<-Ho,cV,Hh];simp
 have kB:st+1+1=χ qi (n+1) 0:=by
  exact zzB1
 have kC:st+1+1+1=χ qi (n+2) 0:=by
  exact zzAs
 have aI:ai=χ qi i 0:=by
  rw[Qb,bK zg,bK zg,bK zo];exact xf
 rw[<-hn,<-Q7] at qf;obtain⟨S3,Xh⟩:=zE (S2.link i [n,n+1]);have L3:=bW.link S2 i [n,n+1];rw[<-Xh] at qf L3;cases hx:fE ta n S3 with
 | none=>rw[hx] at qf;cases qf
 | some pq=>
 obtain⟨p1,S4⟩:=pq;rw[hx] at qf;simp only at qf;cases hy:fE tb (n+1) S4 with
 | none=>rw[hy] at qf;cases qf
 | some pq=>
 obtain⟨q1,S5⟩:=pq;rw[hy] at qf;simp only[Option.some.injEq,Prod.mk.injEq] at qf;obtain⟨rfl,xx⟩:=qf;have L4:=iD _ _ _ _ _ hx;have L5:=iD _ _ _ _ _ hy;obtain⟨S6,Ao⟩:=zE (S5.link p1 [n+2]);have L6:=bW.link S5 p1 [n+2];rw[<-Ao] at xx L6;have L7:bW S6 s':=by rw[<-xx];exact bW.link _ _ _
 have A2:=zh (aW.upd U3 Ih);have Vl:=zh (aW.upd U3 AK);have AV:=zh M0;have Ur:=zh U3;have Hl:=Λ sto stt stl;have Tg:=zh aI;have Yj:i<I S2.kN:=by rw[KG];omega
 have HL:=Ψ Yj (show n<S2.kN.length by omega) (show n+1<S2.kN.length by omega) (show n+2<S2.kN.length by omega);have yk:=Ψ L3 L4 L5 (zAi L6 L7);have HS:=Λ Xh Ao xx;have HX:=zh hx;have HY:=zh hy;have HB:=zh QW;have HN:=Λ Qh qh Yn;have YY:=zh (show S2.cL=s.cL/\S2.bE=s.bE by rw[Q7];exact⟨rfl,rfl⟩)
 have Fj:=zh (show ∃ ext,qi=Hd++ext from⟨_,by rw[Qb,List.append_assoc,List.append_assoc]⟩);obtain⟨a1,KI⟩:∃ y,y=st+1:=⟨_,rfl⟩;obtain⟨b1,KL⟩:∃ y,y=st+1+1:=⟨_,rfl⟩;obtain⟨d1,US⟩:∃ y,y=st+1+1+1:=⟨_,rfl⟩;have AU:=zh (show a1=qi.getD n 0 by omega);have ed:=zh (show b1=qi.getD (n+1) 0 by omega);have HKD:=zh (show d1=qi.getD (n+2) 0 by omega);have Y0:=Ψ yj Hh KI (zAi KL US)
 clear yj Hh KI KL US kA kB kC M0 U3 sto stt stl aI xf Yj L3 L4 L5 L6 L7 Xh Ao xx hx hy QW Qh qh Yn N0 N1 N2 N3 N4 Xy Vu E8 CS Ih AK Q7 KG Qb Ho hn hL;go_in;go_upto_region 24 with fail
 refine zzCZ ?_;clear Ap CN Bl;obtain⟨vi1,Yt,XF⟩:=AV.o.ready i HL.o.1;rw[<-Tg.o] at Yt XF;have c1:=Yt.cell;have TB:=zh Yt.row;have Tp:=zh Yt.kept;have Tq:=zh XF
 have KQ:I (bD S2.kN i)+2<=1000000000:=(by have h0:=HB.o i;have h:=yk.o;unfold bW at h;have h1:=h.1.2.2.2 i;have:=h.2.1.2.2.2 i;have h3:=h.2.2.1.2.2.2 i;have h4:=h.2.2.2.1.2.2.2 i;have h5:=h.2.2.2.2.2.2.2 i;omega);clear Yt XF
 go_upto_region 25 with (at_builtin;refine bM _ rfl _ _ rfl jY _ _ _ rfl zzCo ⟨_,0,none⟩ 2 2 [aF a1,aF b1] rfl rfl (cI _ #[aF a1,aF b1] _ _ zs) zzAU zd KQ zd ?_;intro va1 wa1 vd X8 KM;obtain⟨ga1,ca1,rfl⟩:=cH vd;obtain⟨ka1,kb1,kc1⟩:=Tp.o _ _ X8)
 obtain⟨Tf,yu⟩:=Tq.o [n,n+1] (λj hj=>by simp only[List.mem_cons,List.not_mem_nil,or_false] at hj;have:=HL.o;omega) (Ω #[aF a1,aF b1] 170) wa1 _ zzB9 X8 KM;have QO:=zh yu;clear yu vd X8 KM ka1 kb1 kc1 c1 KQ;generalize wa1.setCell ai.a (σ ga1 (I (bD S2.kN i)+1+1) ca1)=Ps at QO ⊢;have yu:=QO.o.drew;rw[<-HS.o.1] at yu
 have Yo:=(yu.upd.keep st Hl.o.2.2 (.inl Hl.o.2.1)).trans Hl.o.1;have d0:Ps.v st 0 (Δ (fU ta) xa):=by have h0:=zQ 0 Yo;simpa using h0
 have d1':Ps.v st 1 (Δ (fU tb) xb):=by have h0:=zQ 1 Yo;simpa using h0
 have Hj:=jv n p1 S3 S4 Ps.drew Tf bl bm qi rU fO _ yu.lay (by have h:=yk.o.1;unfold bW at h;have:=HN.o;have:=YY.o;rw[HS.o.1];simp only[bC.link];grind)
  zzCw zzCw
  (aW.upd yu.upd A2.o) zzDO HX.o
  (λk=>by have h0:=HB.o k;have h:=yk.o;unfold bW at h;have h3:=h.2.2.1.2.2.2 k;have h4:=h.2.2.2.1.2.2.2 k;have h5:=h.2.2.2.2.2.2.2 k;omega)
 have QZ:=AV.o.len;rw[<-AU.o] at Hj;have Pu:=zh (show I S3.cL=I s.cL/\I S3.bE=s.bE.length by rw[HS.o.1];exact⟨congrArg List.length YY.o.1,congrArg List.length YY.o.2⟩);have KR:∀ (w5:ω) (yq:Nat->Nat) (Xg:ο),jC w5 yq bl bm (qi++Xg) S4 (rU++ψ (I S4.cL-I S3.cL) (-1)) fO->eA Tf yq Ps.drew w5->
  Γ 63 #[π bm,Δ (fU tb) xb,aF b1] w5 (LayO yq bl bm (qi++Xg) (I S4.cL) (rU++ψ (I S4.cL-I S3.cL) (-1)) fO q1 S5 w5):=by
  intro w5 yq Xg A9 KH;have h:=ihb (n+1) q1 S4 S5 w5 yq bl bm (qi++Xg) (rU++ψ (I S4.cL-I S3.cL) (-1)) fO _ A9
   (by have h:=yk.o.2.1;unfold bW at h;have:=HN.o;have:=Pu.o;simp only[zLn,List.length_replicate];omega)
   zzCt zzCt
   (aW.upd (yu.upd.trans KH) Vl.o) zzAQ HY.o
   (λk=>by have h0:=HB.o k;have h:=yk.o;unfold bW at h;have h4:=h.2.2.2.1.2.2.2 k;have h5:=h.2.2.2.2.2.2.2 k;omega)
  rw[bK (by rw[QZ];exact HL.o.2.2.1),<-ed.o] at h;exact h
 have Cu:∀ (w5:ω) (yq:Nat->Nat),eA Tf yq Ps.drew w5->w5.v st 0 (Δ (fU ta) xa)/\w5.v st 1 (Δ (fU tb) xb)/\st<w5.t:=by
  exact zzBd
 have qw:=zh Hj;have Vv:=zh KR;have dg:=zh Cu;have Kl:=zh yu;clear yu Yo Hj KR Cu QZ;go_region_held3 (λw'=>w'.v st 0 (Δ (fU ta) xa)/\w'.v st 1 (Δ (fU tb) xb)) (go_keep)
  (first|(go_at_call 63;refine (Vv.o _ _ _ jo.o A4.o).mono ?_;rintro e w6 ⟨Xs,ext6,rfl,Zk,Pk,Bk⟩;obtain⟨xo,KK⟩:=zE (qi++Xg++ext6);obtain⟨aq,J5⟩:=zE (χ xo q1 0);rw[<-KK] at Zk;rw[<-KK,<-J5];have Ix:=zh J5;have C7:=zh KK;have HL6:=zh Zk;have WI:=zh Bk;have HP6:=zh Pk;clear Zk Bk Pk J5 KK;obtain⟨y0,y1,y2⟩:=dg.o _ _ (A4.o.trans WI.o))
         | (go_at_call 63;refine qw.o.mono ?_;rintro e w5 ⟨yq,Xg,rfl,A9,Ta,KH⟩;obtain⟨ap,PN⟩:=zE (χ (qi++Xg) p1 0);rw[<-PN];have Ks:=zh PN;have jo:=zh A9;have A4:=zh KH;have LP:=zh Ta;clear A9 KH Ta PN;obtain⟨z0,z1,z2⟩:=dg.o _ _ A4.o))
 have QZ:=AV.o.len;have IP:iA xy bl bm w3 S4 (rU++ψ (I S4.cL-I S3.cL) (-1)) fO (qi++Xg) yq w5:=⟨jo.o,Kl.o.upd.trans A4.o⟩;have U8:=IP.len;have IQ:iA xy bl bm w3 S5 (rU++ψ (I S5.cL-I S3.cL) (-1)) fO xo Xs w6:=⟨by
  have h:=HL6.o;rw[zeG rU _ _ _ yk.o.2.1.2.1 yk.o.2.2.1.2.1] at h;exact h,IP.upd.trans WI.o⟩
 have Zm:=IQ.alloc0 (Ω #[aF ap,aF aq] 170);have HU7:=zh Zm.upd;have PP:(κ w6 (Ω #[aF ap,aF aq] 170)).h w6.t #[aF ap,aF aq] 170:=by rw[aV,zP rfl]
 have Ie:dI Xs w6.t 0 w6.t=0:=by simp[dI]
 have ep:=zh (show iA (dI Xs w6.t 0) bl bm (κ w6 (Ω #[aF ap,aF aq] 170)) S5 (rU++ψ (I S5.cL-I S3.cL) (-1)) fO xo (dI Xs w6.t 0) (κ w6 (Ω #[aF ap,aF aq] 170)) from⟨Zm.lay,eA.refl _ _⟩);have wt:=zh (show ap=xo.getD p1 0 by rw[C7.o,bK (by rw[U8];exact LP.o)];exact Ks.o);have Fu:=zh (show d1=xo.getD (n+2) 0 by rw[C7.o,List.append_assoc,bK (by rw[QZ];exact HL.o.2.2.2)];exact HKD.o)
 have Lt:=zh (show ∃ ext,xo=Hd++ext by obtain⟨e,he⟩:=Fj.o;exact⟨e++Xg++ext6,by rw[C7.o,he];simp⟩);clear QZ IP U8 IQ Zm jo A4 HL6 WI y0 y1 y2 z0 z1 z2 d0 d1';obtain⟨g6,Kn⟩:=zE (w6.heap.size);rw[<-Kn] at PP Ie ep HU7 ⊢;clear Kn;generalize w6.alloc (Ω #[aF ap,aF aq] 170)=w7 at*;generalize dI Xs g6 0=ay at*;have b0:w7.v g6 0 (aF ap):=by have h0:=zQ 0 PP;simpa using h0
 have lg6:g6<w7.t:=aA PP;have Lk:=Θ PP Ie;clear PP Ie;go_wp2;refine wp_loop_rounds 3 ?_;rw[rounds_succ];go_upto_region 28 with fail
 obtain⟨vi2,K9,TY⟩:=ep.o.ready p1 zzDU;rw[<-wt.o] at K9 TY;have c2:=K9.cell;have FK:=zh K9.row;have Fv:=zh K9.kept;have Fz:=zh TY;have UO:I (bD S5.kN p1)+1<=1000000000:=(by have h0:=HB.o p1;have h:=yk.o;unfold bW at h;have h4:=h.2.2.2.1.2.2.2 p1;have h5:=h.2.2.2.2.2.2.2 p1;omega);clear K9 TY
 go_wp2_with (at_builtin;refine dM rfl jY rfl (by exact (FK.o.alloc _)) [aF d1] UO ?_;intro va2 wa2 T7 TT UG;obtain⟨ga2,ca2,rfl⟩:=cH T7;obtain⟨ka2,kb2,kc2⟩:=Fv.o _ _ TT)
 obtain⟨tg2,Bg⟩:=Fz.o [(n+2)] (λj hj=>by rw[zMs] at hj;subst hj;exact zzAQ) (Ω #[aF d1] 170) wa2 _ (by rw[show ([(n+2)].map λj=>aF (χ xo j 0))=[aF d1] from congrArg (λz=>[aF z]) Fu.o.symm];exact T7) TT UG;have Q4:=zh Bg;clear Bg T7 TT UG ka2 kb2 kc2 c2 UO;generalize wa2.setCell ap.a (σ ga2 (I (bD S5.kN p1)+1) ca2)=wn2 at Q4 ⊢;have Eo:=Q4.o;rw[<-HS.o.2.1] at Eo
 have PP:=(Eo.upd.keep g6 lg6 (.inl Lk.o.2)).trans Lk.o.1;have:wn2.v g6 1 (aF aq):=by have h0:=zQ 1 PP;simpa using h0
 have Ag:=zh Eo;clear Eo PP b0;rw[rounds_succ];go_upto_region 28 with fail
 obtain⟨vi3,ja,TZ⟩:=Ag.o.ready q1 (by have:=HP6.o;have h:=yk.o;unfold bW at h;omega);rw[<-Ix.o] at ja TZ;have c3:=ja.cell;have PD:=zh ja.row;have Fw:=zh ja.kept;have FA:=zh TZ;have UP:I (bD S6.kN q1)+1<=1000000000:=(by have h0:=HB.o q1;have h:=yk.o;unfold bW at h;have h5:=h.2.2.2.2.2.2.2 q1;omega);clear ja TZ
 go_wp2_with (at_builtin;refine dM rfl jY rfl (by exact (PD.o.alloc _)) [aF d1] UP ?_;intro va3 wa3 T8 TU UH;obtain⟨ga3,ca3,rfl⟩:=cH T8;obtain⟨ka3,kb3,kc3⟩:=Fw.o _ _ TU)
 obtain⟨tg3,Me⟩:=FA.o [(n+2)] (λj hj=>by rw[zMs] at hj;subst hj;exact zzAQ) (Ω #[aF d1] 170) wa3 _ (by rw[show ([(n+2)].map λj=>aF (χ xo j 0))=[aF d1] from congrArg (λz=>[aF z]) Fu.o.symm];exact T8) TU UH;have Kl:=zh Me;clear Me T8 TU UH ka3 kb3 kc3 c3 UP;generalize wa3.setCell aq.a (σ ga3 (I (bD S6.kN q1)+1) ca3)=wn3 at Kl ⊢;rw[rounds_succ];go_wp2;go_ret
 have hN9:=Kl.o;rw[HS.o.2.2] at hN9;exact zcp (s':=s') (b:=d1) hN9 (Ur.o.trans HU7.o) Lt.o (by rw[<-HS.o.2.2,HS.o.2.1];rfl) Pu.o.1 zzAQ Fu.o
theorem xW:∀ t:aL,LayC t
 | .cL c=>lay_cls c
 | .row l=>lay_row l (λt _=>xW t)
 | .either a b=>ziG a b (xW a) (xW b)
 | .rep t m o=>lay_rep t m o (xW t)
