/- Part of a proof. No condition. -/
import Derived.Test.YtghpmhllpaheiaaGreatDoorF04
import Derived.Test.YtghpmhllpaheiaaGreatDoorF20
set_option linter.unusedVariables false
set_option linter.unusedSimpArgs false
namespace Go.Proofs.YtghpmhllpaheiaaGreatDoor
open Go.RowKit Go.Lib
variable {w:World} {oi:Oper} {f:Nat} {d:Array Bool} {a:Act}
theorem iW.grown {B:Nat} {w':World} {bt:Nat} {T:iP} {bc cc br cr bg cg ba:Nat} (h:iW B w bt T bc cc br cr bg cg) (hg:w.grownBy w' (some ba)) (hB:B<=ba) (hw:B<=w.heap.size):iW B w' bt T bc cc br cr bg cg:=
 h.below ⟨hg.os,hg.tape,hg.output,hg.size,λb hb=>hg.block b (by omega) (λe=>by cases e;omega)⟩
section
variable {P:Program} {ops:Array Oper} {Q:Exit->Act->World->Prop} {md:Region.Mode} {S:World->Prop}
theorem held_take (i:Nat) {v:Value} (hi:ops.toList[i]?=some oi) (hs:Region.noSelect ops=true) (hf:Region.free md ops d i=true)
 (hr:(Region.ready md ops d).contains i=true) (hQ:∀ c a w,Q (.panic c) (a.put oi.dst v) w->Q (.panic c) a w) (hg:Region.wanted oi (yielded ops a.tmps)=true)
 (hy:∀ w,S w->(execOp a.eval oi).run P w=.ok (.value v) w) (hS:S w) (h:wpAnyH P md ops Q S f (d.setIfInBounds i true) (a.put oi.dst v) w):wpAnyH P md ops Q S (f+1) d a w:=
 wpAnyH_take (by rw[<-hi];simp) hs hf hr hQ (.inl ⟨hg,hy⟩) hS h
theorem zcX (i:Nat) (hi:ops.toList[i]?=some oi) (hs:Region.noSelect ops=true) (hf:Region.free md ops d i=true)
 (hr:(Region.ready md ops d).contains i=true) (hQ:∀ c a w,Q (.panic c) (a.put oi.dst undef) w->Q (.panic c) a w) (hg:Region.wanted oi (yielded ops a.tmps)=false)
 (hS:S w) (h:wpAnyH P md ops Q S f (d.setIfInBounds i true) (a.put oi.dst undef) w):wpAnyH P md ops Q S (f+1) d a w:=
 wpAnyH_take (by rw[<-hi];simp) hs hf hr hQ (.inr ⟨hg,rfl⟩) hS h
theorem cQ (i:Nat) {v:Value} {d':Array Bool} {a':Act} (hS:S w) (h:wpAnyH P md ops Q S f d' a' w)
 (hi:ops.toList[i]?=some oi:=by rfl) (hs:Region.noSelect ops=true:=by kernel_rfl) (hf:Region.free md ops d i=true:=by kernel_rfl) (hr:(Region.ready md ops d).contains i=true:=by kernel_rfl)
 (hy:∀ w,S w->(execOp a.eval oi).run P w=.ok (.value v) w:=by (intro w9 Ea;(try dsimp only at Ea);go_simp;(try with_reducible rfl)))
 (ha:a.put oi.dst v=a':=by ((try simp only[Act.put,lA,lB,lC]);rfl)) (hd:d.setIfInBounds i true=d':=by ((try simp only[lA,lB,lC]);rfl)) (hQ:∀ c a w,Q (.panic c) (a.put oi.dst v) w->Q (.panic c) a w:=by exact λ_ _ _ h=>h) (hg:Region.wanted oi (yielded ops a.tmps)=true:=by rfl):wpAnyH P md ops Q S (f+1) d a w:=by
 subst ha;subst hd;exact held_take i hi hs hf hr hQ hg hy hS h
theorem held_step (i:Nat) (hi:ops.toList[i]?=some oi) (hr:Region.ready md ops d=[i])
 (h:∀ K:Act->World->Prop,Shut (∀ a' w',S w'->(S w'->wpAnyH P md ops Q S f (d.setIfInBounds i true) a' w')->K a' w')->if Region.wanted oi (yielded ops a.tmps)=true then Oper.wp P oi a w K Q else K (a.put oi.dst undef) w):
 wpAnyH P md ops Q S (f+1) d a w:=
 wpAnyH_ready hr (by simp) (AllReadyH.cons (by rw[<-hi];simp) h AllReadyH.nil)
theorem rK (i:Nat) 
 (h:∀ K:Act->World->Prop,Shut (∀ a' w',S w'->(S w'->wpAnyH P md ops Q S f (d.setIfInBounds i true) a' w')->K a' w')->if Region.wanted oi (yielded ops a.tmps)=true then Oper.wp P oi a w K Q else K (a.put oi.dst undef) w) (hi:ops.toList[i]?=some oi:=by rfl) (hr:Region.ready md ops d=[i]:=by kernel_rfl):wpAnyH P md ops Q S (f+1) d a w:=held_step i hi hr h
