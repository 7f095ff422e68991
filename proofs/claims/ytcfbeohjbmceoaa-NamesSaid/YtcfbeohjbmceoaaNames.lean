/-
  PROVED: scangenlaw.Names returns true: each of the errors has its number, and the bounds are the document's. No condition.
  (The frame around the walk is the proof skeleton's own print for this function.)
-/
import Derived.Test.YtcfbeohjbmceoaaRows
import Derived.WalkKit
import Derived.ProofKit
import Derived.OpenShut
import Derived.Handy
import Derived.Lib.Hide
import Derived.Deep.QuietTactic
import Derived.BigQuiet
namespace Go.Proofs.Ytcfbeohjbmceoaa.names
open Go.ChangeShapes Go.WideShapes Go.ChangeAt Go.RowKit
set_option linter.unusedVariables false      -- a walk need not use every 'w<i>' (that an integer argument fits its kind)

theorem own : ownKnob Try.prog.godebug = none := by kernel_rfl

def numsA : Array Value := #[Value.int IntKind.i64 0, Value.int IntKind.i64 1, Value.int IntKind.i64 2, Value.int IntKind.i64 3, Value.int IntKind.i64 4, Value.int IntKind.i64 5, Value.int IntKind.i64 6, Value.int IntKind.i64 7, Value.int IntKind.i64 8, Value.int IntKind.i64 9, Value.int IntKind.i64 10, Value.int IntKind.i64 11, Value.int IntKind.i64 12, Value.int IntKind.i64 13, Value.int IntKind.i64 14]
def othA : Array Value := #[Value.int IntKind.i64 8, Value.int IntKind.i64 60, Value.int IntKind.i64 8, Value.int IntKind.i64 8, Value.int IntKind.i64 64, Value.int IntKind.i64 200, Value.int IntKind.i64 4, Value.int IntKind.i64 100000, Value.int IntKind.i64 8]
theorem nums_get (k : Nat) (h : k < 15) : numsA[k]? = some (Value.int IntKind.i64 k) := by
  have : k = 0 ∨ k = 1 ∨ k = 2 ∨ k = 3 ∨ k = 4 ∨ k = 5 ∨ k = 6 ∨ k = 7 ∨ k = 8 ∨ k = 9 ∨ k = 10 ∨ k = 11 ∨ k = 12 ∨ k = 13 ∨ k = 14 := by omega
  rcases this with rfl | rfl | rfl | rfl | rfl | rfl | rfl | rfl | rfl | rfl | rfl | rfl | rfl | rfl | rfl <;> rfl
def oth : List Int := [8, 60, 8, 8, 64, 200, 4, 100000, 8]
theorem oth_get (k : Nat) (h : k < 9) : othA[k]? = some (Value.int IntKind.i64 (oth.getD k 0)) := by
  have : k = 0 ∨ k = 1 ∨ k = 2 ∨ k = 3 ∨ k = 4 ∨ k = 5 ∨ k = 6 ∨ k = 7 ∨ k = 8 := by omega
  rcases this with rfl | rfl | rfl | rfl | rfl | rfl | rfl | rfl | rfl <;> rfl
/-- The four lists, laid. -/
def laid (w : World) : World := (((w.alloc (.cells numsA 3)).alloc (.cells othA 3)).alloc (.cells othA 3)).alloc (.cells numsA 23)
theorem laid_grown (w : World) : Grown w (laid w) := by
  unfold laid
  go_grown
theorem heap_get (w : World) (o : Obj) (k : Nat) : (w.alloc o).heap[k]? = if k = w.heap.size then some o else w.heap[k]? := by
  show (w.heap.push o)[k]? = _
  rw [Array.getElem?_push]
theorem cell0 (w : World) (k : Nat) (h : k < 15) : (laid w).cell? ⟨w.heap.size, k, none⟩ = some (Value.int IntKind.i64 k) := by
  rw [← nums_get k h]; simp only [laid, World.cell?, heap_get, World.size_alloc]; rw [if_neg (by omega), if_neg (by omega), if_neg (by omega), if_pos (by first | trivial | omega)]; rfl
theorem cell3 (w : World) (k : Nat) (h : k < 15) : (laid w).cell? ⟨w.heap.size + 1 + 1 + 1, k, none⟩ = some (Value.int IntKind.i64 k) := by
  rw [← nums_get k h]; simp only [laid, World.cell?, heap_get, World.size_alloc]; rw [if_pos trivial]; rfl
theorem cell1 (w : World) (k : Nat) (h : k < 9) : (laid w).cell? ⟨w.heap.size + 1, k, none⟩ = some (Value.int IntKind.i64 (oth.getD k 0)) := by
  rw [← oth_get k h]; simp only [laid, World.cell?, heap_get, World.size_alloc]; rw [if_neg (by omega), if_neg (by omega), if_pos (by first | trivial | omega)]; rfl
theorem cell2 (w : World) (k : Nat) (h : k < 9) : (laid w).cell? ⟨w.heap.size + 1 + 1, k, none⟩ = some (Value.int IntKind.i64 (oth.getD k 0)) := by
  rw [← oth_get k h]; simp only [laid, World.cell?, heap_get, World.size_alloc]; rw [if_neg (by omega), if_pos (by first | trivial | omega)]; rfl
theorem num_any (n : Int) (w : World) : Calls Try.prog 4 #[.int .i64 n] w fun e w' => e = .returned (.int .i64 n) ∧ w' = w := by
  go_enter Try.func4, Try.ntmps4
  go_wp2
  go_ret
  exact ⟨rfl, rfl⟩

theorem walk  (w : World) :
    Calls Try.prog 3 #[] w fun e w' => e = .returned (.bool true) ∧ Grown w w' := by
  go_enter Try.func3, Try.ntmps3
  go_wp2
  have hg := laid_grown w
  have c0 := cell0 w
  have c1 := cell1 w
  have c2 := cell2 w
  have c3 := cell3 w
  change Code.wp _ _ _ _ (laid w)
  generalize laid w = W at *
  generalize w.heap.size = B at *
  have C1 := Lib.hid c1
  have C2 := Lib.hid c2
  have C0 := Lib.hid c0
  have C3 := Lib.hid c3
  clear c0 c1 c2 c3
  go_loop [0, 5, 6] (fun _ i _ => ∃ k : Nat, k ≤ 15 ∧ i = .int .i64 k) (fun _ i _ => 15 - (intOf i).toNat)
  case atStart => exact ⟨0, by omega, rfl⟩
  case round =>
    obtain ⟨k, hk, rfl⟩ := hrel
    by_cases hlt : k < 15
    · have a0 := C0.out k hlt
      have a3 := C3.out k hlt
      go_wp2_with (go_at_call 4; refine (num_any _ _).mono ?_; rintro e w' ⟨rfl, rfl⟩)
      go_round
      case rel => exact ⟨k + 1, by omega, by go_num⟩
      case measure => simp [intOf]; omega
    · go_wp2
      go_loopw [0, 7] (fun _ i wr => (∃ k : Nat, k ≤ 9 ∧ i = .int .i64 k) ∧ ∃ n, wr = W.drewN n) (fun _ i _ => 9 - (intOf i).toNat)
      case atStart => exact ⟨⟨0, by omega, rfl⟩, 0, rfl⟩
      case round =>
        obtain ⟨⟨j, hj, rfl⟩, n, rfl⟩ := hrel
        by_cases hlt' : j < 9
        · have a1 := C1.out j hlt'
          have a2 := C2.out j hlt'
          go_wp2
          go_quiet (fail)
          go_wp2
          go_roundw
          case rel => exact ⟨⟨j + 1, by omega, by go_num⟩, _, rfl⟩
          case measure => simp [intOf]; omega
        · go_wp2
          go_ret
          exact ⟨rfl, (show Grown w (W.drewN n) from hg)⟩

/-! ### THE ROW's STEP: WRITTEN OUT: LEAVE IT -/
set_option maxRecDepth 100000 in
theorem lifted (os : Os) (started : os.Started) (H : Type) (enc : TypeId × Value → H) :
    ReturnsInHanded {} Try.checked os 3 .any (Rows.namesSpec.pre6 enc Try.prog Try.f3 Rows.namesRow.domain false) (Rows.namesSpec.post enc Try.prog Try.f3 false true false false) := by
  refine returnsInHanded_of_change (C := Try.checked) own started (by kernel_rfl) Try.func3
    (ChangeSpec.witness6 (enc := enc) (C := Try.checked) false ⟨#[], #[], []⟩ 8 (by kernel_rfl) (by kernel_rfl) (by kernel_rfl) (by kernel_rfl)) ?_
  intro W base args ds gs before hval0 hW hcnd _
  have hval : ∀ (j : Nat) t v, Try.f3.params[j]? = some t → args[j]? = some v → Value.okWide Try.prog W .any base t v := hval0
  have hW' := hW
  obtain ⟨p, q, hA0, hV, rfl, hfz, hnd⟩ := hW
  have hA : DataW.TrodAll enc Try.prog W 0 (fun _ => true) true Try.f3.params.toList args.toList ds p := hA0
  rw [Try.params3] at hA hval
  obtain ⟨rfl, rfl, rfl⟩ := trodAll_none hA
  obtain ⟨rfl, rfl⟩ := trodVars_none hV
  clear hA0 hval0
  simp only [List.append_nil] at hW'
  refine (walk  W).mono fun e W' ⟨he, hg⟩ => ?_
  subst he
  exact ⟨_, rfl, post_of_same (pa := []) (pv := []) hW' (fun _ _ _ => (trodAll_cons_mk (shut_bool Try.underlying4 _) trodAll_mk0)) (fun sp _ => rfl) (fun _ _ => rfl) rfl
    (hg.frame _) hg.2.1 (ok_one (by kernel_rfl) rfl (okWide_bool_mk Try.underlying4 _))⟩

theorem over : Rows.namesRow.holds Try.pinned (OpenSpec.ofChange Rows.namesSpec) :=
  OpenClaim.holds_of_wide 3 Try.f3 rfl rfl rfl rfl rfl rfl rfl ⟨rfl, rfl, rfl, rfl, rfl⟩ rfl rfl rfl rfl rfl (by kernel_rfl) Try.func3 (by kernel_rfl)
    (of_decide_eq_true (by kernel_rfl)) (by unfold Func.isWrapper; first | (rw [if_pos (by decide +kernel)]; kernel_rfl) | (rw [if_neg (by decide +kernel)]; exact ⟨rfl, rfl⟩))
    (fun os started H enc _ => lifted os started H enc)

/-- ████ THE STATEMENT ████ -/
theorem proved : Rows.NamesSaid :=
  over
#print axioms proved
end Go.Proofs.Ytcfbeohjbmceoaa.names
