/-
  Part of the proof: Sink. No condition beyond those in the statements.
-/
import Derived.Deep.RegionHeld
import Derived.StillTail
import Derived.Test.YtghpmhllpaheiaaGreatDoorL00
set_option linter.unusedVariables false
set_option linter.unusedSimpArgs false
namespace Go.Proofs.YtghpmhllpaheiaaGreatDoor
open Go.RowKit Go.Lib
section
variable {P : Program} {ops : Array Oper} {Q : Exit -> Act -> World -> Prop} {md : Region.Mode} {S : World -> Prop} {n : Nat}
def zfS (P : Program) (md : Region.Mode) (ops : Array Oper) (Q : Exit -> Act -> World -> Prop) (S : World -> Prop) (n : Nat) : Nat -> Array Bool -> Act -> World -> Prop
 | 0, d, a, w => Region.ready md ops d = [] /\ Q .normal a w
 | f + 1, d, a, w => (Region.ready md ops d = [] -> Q .normal a w) /\ ∀ j ∈ Region.ready md ops d, wpOp P ops Q j (fun a' w' => (j ≠ n -> S w') /\ zfS P md ops Q S n f (d.setIfInBounds j true) a' w') a w
theorem zgk : ∀ (f : Nat) (d : Array Bool) (a : Act) (w : World), zfS P md ops Q S n f d a w -> wpAny P md ops Q f d a w
 | 0, _, _, _, h => h
 | f + 1, _, _, _, h => ⟨h.1, fun j hj => wpOp_mono (fun a' w' k => zgk f _ a' w' k.2) (h.2 j hj)⟩
theorem zi5 {i j : Nat} {d : Array Bool} (hi : d.getD i true = false) (hw : ∃ o, ops[j]? = some o /\ ∃ e ∈ o.after, Region.binds md e = true /\ e.on = i) : ¬ j ∈ Region.ready md ops d := by
 intro h; obtain ⟨o, ho, e, he, hb, hon⟩ := hw; obtain ⟨_, o', ho', hall⟩ := mem_ready.1 h; rw [ho] at ho'; cases ho'; have h1 := hall e he hb; rw [hon] at h1
 rcases Nat.lt_or_ge i d.size with hl | hl
 . simp [hl] at hi h1
   rw [hi] at h1; cases h1
 simp [Array.getElem?_eq_none hl] at h1
theorem zjO {i : Nat} {oi : Oper} {v : Value} (hi : ops[i]? = some oi) (hsel : ∀ (j : Nat) (o : Oper) cs b, ops[j]? = some o -> o.op ≠ .select cs b) (hin : i ≠ n)
 (hn : ∃ o, ops[n]? = some o /\ ∃ e ∈ o.after, Region.binds md e = true /\ e.on = i) (hQ : ∀ c a w, Q (.panic c) (a.put oi.dst v) w -> Q (.panic c) a w) :
 ∀ (f : Nat) (d : Array Bool) (a : Act) (w : World),
  (∀ j oj, ops[j]? = some oj -> j ≠ i -> d.getD j true = false -> (∀ e ∈ oj.after, Region.binds md e = true -> e.on ≠ i) -> oi.apart ops oj = true) ->
  i ∈ Region.ready md ops d -> YieldsIf P ops S oi v a -> S w ->
  zfS P md ops Q S n f (d.setIfInBounds i true) (a.put oi.dst v) w -> zfS P md ops Q S n (f + 1) d a w := by
 intro f
 induction f with
 | zero =>
  intro d a w _ hr hy hS H; refine ⟨fun h => absurd hr (by rw [h]; simp), fun j hj => ?_⟩; by_cases e : j = i
  . subst e
    exact hy.wpOp hi hS ⟨fun _ => hS, H⟩
  . exact absurd (ready_mono hj e) (by rw [H.1]; simp)
 | succ f ih =>
  intro d a w hap hr hy hS H; refine ⟨fun h => absurd hr (by rw [h]; simp), fun j hj => ?_⟩; by_cases e : j = i
  . subst e
    exact hy.wpOp hi hS ⟨fun _ => hS, H⟩
  have hun : d.getD i true = false := (mem_ready.1 hr).1
  have hjn : j ≠ n := fun e2 => zi5 hun (by rw [e2]; exact hn) hj; obtain ⟨hju, oj, hoj, _⟩ := mem_ready.1 hj; have hno : ∀ e' ∈ oj.after, Region.binds md e' = true -> e'.on ≠ i := fun e' he hb heq => zi5 hun ⟨oj, hoj, e', he, hb, heq⟩ hj; have k := wpOp_putIf hoj (hap j oj hoj e hju hno) (fun cs b => hsel i oi cs b hi) (fun cs b => hsel j oj cs b hoj) hQ hy (H.2 j (ready_mono hj e)); refine wpOp_mono (fun a' w' h3 => ⟨fun _ => h3.2.1 hjn, ?_⟩) k
  refine ih (d.setIfInBounds j true) a' w' (fun m om hm hmi hmu hmn => hap m om hm hmi ?_ hmn) (ready_mono hr (Ne.symm e)) h3.1 (h3.2.1 hjn) ?_
  . by_cases e3 : j = m
    . rw [<- e3]; exact hju
    rwa [getD_set_ne true e3] at hmu
  rw [Array.setIfInBounds_comm _ _ e]
  exact h3.2.2
theorem zdx (i : Nat) {oi : Oper} {v : Value} {f : Nat} {d : Array Bool} {a : Act} {w : World} (hi : ops.toList[i]? = some oi) (hs : Region.noSelect ops = true) (hf : Region.free md ops d i = true)
 (hr : (Region.ready md ops d).contains i = true) (hn : (decide (i ≠ n) && Region.waitsFor md ops n i) = true) (hQ : ∀ c a w, Q (.panic c) (a.put oi.dst v) w -> Q (.panic c) a w) (hg : oi.guard = none)
 (hy : ∀ w, S w -> (execOp a.eval oi).run P w = .ok (.value v) w) (hS : S w) (h : zfS P md ops Q S n f (d.setIfInBounds i true) (a.put oi.dst v) w) : zfS P md ops Q S n (f + 1) d a w := by
 rw [Bool.and_eq_true, decide_eq_true_eq] at hn; have hi' : ops[i]? = some oi := by rw [<- hi]; simp
 refine zjO hi' (Region.noSelect_spec hs) hn.1 (Region.waitsFor_spec hn.2) hQ f d a w (Region.free_spec hi' hf) (by simpa using hr) (.inl ⟨by simp [Region.wanted, hg], hy⟩) hS h
theorem zak (i : Nat) {oi : Oper} {v : Value} {f : Nat} {d : Array Bool} {a : Act} {w : World} (hS : S w) (h : zfS P md ops Q S n f (d.setIfInBounds i true) (a.put oi.dst v) w)
 (hi : ops.toList[i]? = some oi := by rfl) (hs : Region.noSelect ops = true := by kernel_rfl) (hf : Region.free md ops d i = true := by kernel_rfl) (hr : (Region.ready md ops d).contains i = true := by kernel_rfl)
 (hn : (decide (i ≠ n) && Region.waitsFor md ops n i) = true := by kernel_rfl) (hy : ∀ w, S w -> (execOp a.eval oi).run P w = .ok (.value v) w := by (intro w9 hS9; (try dsimp only at hS9); go_simp; (try with_reducible rfl))) (hQ : ∀ c a w, Q (.panic c) (a.put oi.dst v) w -> Q (.panic c) a w := by exact fun _ _ _ h => h) (hg : oi.guard = none := by rfl) : zfS P md ops Q S n (f + 1) d a w :=
 zdx i hi hs hf hr hn hQ hg hy hS h
theorem zaq (i : Nat) {oi : Oper} {f : Nat} {d : Array Bool} {a : Act} {w : World} (hi : ops.toList[i]? = some oi) (hr : Region.ready md ops d = [i])
 (h : ∀ K : Act -> World -> Prop, Shut (∀ a' w', (i ≠ n -> S w') -> zfS P md ops Q S n f (d.setIfInBounds i true) a' w' -> K a' w') -> if Region.wanted oi (yielded ops a.tmps) = true then Oper.wp P oi a w K Q else K (a.put oi.dst undef) w) :
 zfS P md ops Q S n (f + 1) d a w := by
 have hi' : ops[i]? = some oi := by rw [<- hi]; simp
 refine ⟨fun h0 => absurd (hr.symm.trans h0) (by simp), fun j hj => ?_⟩; rw [hr, List.mem_singleton] at hj; subst hj; exact wpOp_step hi' (fun K hK => h K (show Shut _ from fun a1 w1 h1 h2 => hK a1 w1 ⟨h1, h2⟩))
theorem zaP {f : Nat} {d : Array Bool} {a : Act} {w : World} (hr : Region.ready md ops d = []) (h : Q .normal a w) : zfS P md ops Q S n f d a w := by
 cases f with
 | zero => exact ⟨hr, h⟩
 | succ f => exact ⟨fun _ => h, fun j hj => absurd hj (by rw [hr]; simp)⟩
theorem zaA (S : World -> Prop) (n : Nat) {id : Nat} {a : Act} {w : World} (hm : P.follows .mixedOrders = true) (hS : S w.drew) (h : S w.drew -> zfS P .any ops Q S n ops.size (Array.replicate ops.size false) a w.drew) : (Code.region id ops true).wp P Q a w :=
 wp_region_any hm (zgk _ _ _ _ (h hS))
end
end Go.Proofs.YtghpmhllpaheiaaGreatDoor
