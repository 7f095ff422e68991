/- Part of a proof. No condition. -/
import Derived.Deep.RegionHeld
import Derived.StillTail
import Derived.Test.YtghpmhllpaheiaaGreatDoorF00
set_option linter.unusedVariables false
set_option linter.unusedSimpArgs false
namespace Go.Proofs.YtghpmhllpaheiaaGreatDoor
open Go.RowKit Go.Lib
variable {d:Array Bool} {oi:Oper} {v:Value} {f:Nat} {a:Act} {w:World}
section
variable {P:Program} {ops:Array Oper} {Q:Exit->Act->World->Prop} {md:Region.Mode} {S:World->Prop} {n:Nat}
def pL (P:Program) (md:Region.Mode) (ops:Array Oper) (Q:Exit->Act->World->Prop) (S:World->Prop) (n:Nat):Nat->Array Bool->Act->World->Prop
 | 0,d,a,w=>Region.ready md ops d=[]/\Q .normal a w
 | f+1,d,a,w=>(Region.ready md ops d=[]->Q .normal a w)/\∀ j∈Region.ready md ops d,wpOp P ops Q j (λa' w'=>(j≠n->S w')/\pL P md ops Q S n f (d.setIfInBounds j true) a' w') a w
theorem zay:∀ (f:Nat) (d:Array Bool) (a:Act) (w:World),pL P md ops Q S n f d a w->wpAny P md ops Q f d a w
 | 0,_,_,_,h=>h
 | f+1,_,_,_,h=>⟨h.1,λj hj=>wpOp_mono (λa' w' k=>zay f _ a' w' k.2) (h.2 j hj)⟩
theorem zdc {i j:Nat} (hi:d.getD i true=false) (hw:∃ o,ops[j]?=some o/\∃ e∈o.after,Region.binds md e=true/\e.on=i):¬ j∈Region.ready md ops d:=by
 intro h;obtain⟨o,ho,e,he,hb,qq⟩:=hw;obtain⟨_,o',SX,QN⟩:=mem_ready.1 h;rw[ho] at SX;cases SX;have h1:=QN e he hb;rw[qq] at h1
 rcases zLg i d.size with hl|hl
 . simp[hl] at hi h1
   rw[hi] at h1;cases h1
 simp[Array.getElem?_eq_none hl] at h1
theorem zdC {i:Nat} (hi:ops[i]?=some oi) (hsel:∀ (j:Nat) (o:Oper) cs b,ops[j]?=some o->o.op≠ .select cs b) (Xh:i≠n)
 (hn:∃ o,ops[n]?=some o/\∃ e∈o.after,Region.binds md e=true/\e.on=i) (hQ:∀ c a w,Q (.panic c) (a.put oi.dst v) w->Q (.panic c) a w):
 ∀ (f:Nat) (d:Array Bool) (a:Act) (w:World),
  (∀ j oj,ops[j]?=some oj->j≠i->d.getD j true=false->(∀ e∈oj.after,Region.binds md e=true->e.on≠i)->oi.apart ops oj=true)->
  i∈Region.ready md ops d->YieldsIf P ops S oi v a->S w->
  pL P md ops Q S n f (d.setIfInBounds i true) (a.put oi.dst v) w->pL P md ops Q S n (f+1) d a w:=by
 intro f
 induction f with
 | zero=>
  intro d a w _ hr hy hS H;refine⟨λh=>absurd hr (by rw[h];simp),λj hj=> ?_⟩;by_cases e:j=i
  . subst e
    exact hy.wpOp hi hS ⟨λ_=>hS,H⟩
  . exact absurd (ready_mono hj e) (by rw[H.1];simp)
 | succ f ih=>
  intro d a w Ja hr hy hS H;refine⟨λh=>absurd hr (by rw[h];simp),λj hj=> ?_⟩;by_cases e:j=i
  . subst e
    exact hy.wpOp hi hS ⟨λ_=>hS,H⟩
  have OQ:d.getD i true=false:=(mem_ready.1 hr).1
  have Le:j≠n:=λe2=>zdc OQ (by rw[e2];exact hn) hj;obtain⟨SG,oj,Dn,_⟩:=mem_ready.1 hj;have xd:∀ e'∈oj.after,Region.binds md e'=true->e'.on≠i:=λe' he hb heq=>zdc OQ ⟨oj,Dn,e',he,hb,heq⟩ hj;have k:=wpOp_putIf Dn (Ja j oj Dn e SG xd) (λcs b=>hsel i oi cs b hi) (λcs b=>hsel j oj cs b Dn) hQ hy (H.2 j (ready_mono hj e));refine wpOp_mono (λa' w' h3=>⟨λ_=>h3.2.1 Le,?_⟩) k
  refine ih (d.setIfInBounds j true) a' w' (λm om hm Dh Er NO=>Ja m om hm Dh ?_ NO) (ready_mono hr (Ne.symm e)) h3.1 (h3.2.1 Le) ?_
  . by_cases e3:j=m
    . rw[<-e3];exact SG
    rwa [getD_set_ne true e3] at Er
  rw[Array.setIfInBounds_comm _ _ e]
  exact h3.2.2
theorem sink_take (i:Nat) (hi:ops.toList[i]?=some oi) (hs:Region.noSelect ops=true) (hf:Region.free md ops d i=true)
 (hr:(Region.ready md ops d).contains i=true) (hn:(decide (i≠n)&&Region.waitsFor md ops n i)=true) (hQ:∀ c a w,Q (.panic c) (a.put oi.dst v) w->Q (.panic c) a w) (hg:oi.guard=none)
 (hy:∀ w,S w->(execOp a.eval oi).run P w=.ok (.value v) w) (hS:S w) (h:pL P md ops Q S n f (d.setIfInBounds i true) (a.put oi.dst v) w):pL P md ops Q S n (f+1) d a w:=by
 rw[Bool.and_eq_true,decide_eq_true_eq] at hn;have Kk:ops[i]?=some oi:=by rw[<-hi];simp
 refine zdC Kk (Region.noSelect_spec hs) hn.1 (Region.waitsFor_spec hn.2) hQ f d a w (Region.free_spec Kk hf) (by simpa using hr) (.inl ⟨by simp[Region.wanted,hg],hy⟩) hS h
theorem aH (i:Nat) {d':Array Bool} {a':Act} (hS:S w) (h:pL P md ops Q S n f d' a' w)
 (hi:ops.toList[i]?=some oi:=by rfl) (hs:Region.noSelect ops=true:=by kernel_rfl) (hf:Region.free md ops d i=true:=by kernel_rfl) (hr:(Region.ready md ops d).contains i=true:=by kernel_rfl)
 (hn:(decide (i≠n)&&Region.waitsFor md ops n i)=true:=by kernel_rfl) (hy:∀ w,S w->(execOp a.eval oi).run P w=.ok (.value v) w:=by (intro w9 Ea;(try dsimp only at Ea);go_simp;(try with_reducible rfl)))
 (ha:a.put oi.dst v=a':=by ((try simp only[Act.put,lA,lB,lC]);rfl)) (hd:d.setIfInBounds i true=d':=by ((try simp only[lA,lB,lC]);rfl)) (hQ:∀ c a w,Q (.panic c) (a.put oi.dst v) w->Q (.panic c) a w:=by exact λ_ _ _ h=>h) (hg:oi.guard=none:=by rfl):pL P md ops Q S n (f+1) d a w:=by
 subst ha;subst hd;exact sink_take i hi hs hf hr hn hQ hg hy hS h
theorem sink_step (i:Nat) (hi:ops.toList[i]?=some oi) (hr:Region.ready md ops d=[i])
 (h:∀ K:Act->World->Prop,Shut (∀ a' w',(i≠n->S w')->pL P md ops Q S n f (d.setIfInBounds i true) a' w'->K a' w')->if Region.wanted oi (yielded ops a.tmps)=true then Oper.wp P oi a w K Q else K (a.put oi.dst undef) w):
 pL P md ops Q S n (f+1) d a w:=by
 have Kk:ops[i]?=some oi:=by rw[<-hi];simp
 refine⟨λh0=>absurd (hr.symm.trans h0) (by simp),λj hj=> ?_⟩;rw[hr,zMs] at hj;subst hj;exact wpOp_step Kk (λK hK=>h K (show Shut _ from λa1 w1 h1 h2=>hK a1 w1 ⟨h1,h2⟩))
theorem dA (i:Nat) 
 (h:∀ K:Act->World->Prop,Shut (∀ a' w',(i≠n->S w')->pL P md ops Q S n f (d.setIfInBounds i true) a' w'->K a' w')->if Region.wanted oi (yielded ops a.tmps)=true then Oper.wp P oi a w K Q else K (a.put oi.dst undef) w) (hi:ops.toList[i]?=some oi:=by rfl) (hr:Region.ready md ops d=[i]:=by kernel_rfl):pL P md ops Q S n (f+1) d a w:=sink_step i hi hr h
theorem fK (hr:Region.ready md ops d=[]) (h:Q .normal a w):pL P md ops Q S n f d a w:=by
 cases f with
 | zero=>exact⟨hr,h⟩
 | succ f=>exact⟨λ_=>h,λj hj=>absurd hj (by rw[hr];simp)⟩
theorem cK (S:World->Prop) (n:Nat) {id:Nat} (hm:P.follows .mixedOrders=true) (hS:S w.drew) (h:S w.drew->pL P .any ops Q S n ops.size (Array.replicate ops.size false) a w.drew):(Code.region id ops true).wp P Q a w:=
 wp_region_any hm (zay _ _ _ _ (h hS))
