/-
  Part of the proof: Fin3. No condition beyond those in the statements.
-/
import Derived.SliceStrings
import Derived.Test.YtghpmhllpaheiaaGreatDoorL29
import Derived.Test.YtghpmhllpaheiaaGreatDoorL35
set_option linter.unusedVariables false
set_option linter.unusedSimpArgs false
set_option maxRecDepth 100000
namespace Go.Proofs.YtghpmhllpaheiaaGreatDoor
open Go.ChangeShapes Go.WideShapes Go.ChangeAt Go.RowKit Go.Lib
theorem cells9 : Tryz.prog.cellsOf 9 = 1 := by kernel_rfl
theorem zlf {H : Type} {enc : TypeId × Value -> H} {W : World} {base : Nat} {v : Value} {d : DataW H} {ps : List MemPlace} (hv : Value.okWide Tryz.prog W .any base 29 v) (hd : DataW.Trod enc Tryz.prog W 0 (fun _ => true) true 29 v d ps) :
 ∃ ao n cap, v = .slice ao n cap /\ StrsAt W ao n := by
 obtain ⟨ao, n, cap, rfl⟩ := okWide_slice Tryz.underlying29 hv; obtain ⟨fuel, hf⟩ := hd
 rcases Go.ChangeShapes.open_strings Tryz.underlying29 Tryz.underlying9 cells9 hf with ⟨hc, _⟩ | ⟨a, len, cap', zs, hc, _, h1, h2, h3, _, h5, h6⟩
 . simp [Value.cells] at hc
   obtain ⟨rfl, rfl, rfl⟩ := hc; exact ⟨none, 0, 0, rfl, Nat.zero_le _, fun i hi => by omega⟩
 simp [Value.cells] at hc
 obtain ⟨rfl, rfl, rfl⟩ := hc; refine ⟨some a, _, _, rfl, by omega, fun i hi => ?_⟩; simp only [if_true] at h3; have hz := h5 i (by omega); obtain ⟨b, off, sp⟩ := a; have hsp : sp = none := by
  cases sp with
  | none => rfl
  | some s =>
   have h0 := h5 0 (by omega); rw [show (⟨b, off, some s⟩ : Addr).add 0 = ⟨b, off, some s⟩ from rfl] at h0; have := cell_spot h0; cases this
 subst hsp; have hadd : (⟨b, off, none⟩ : Addr).add i = ⟨b, off + i, none⟩ := by unfold Addr.add; split <;> simp_all
 rw [hadd] at hz; exact ⟨_, b, off, rfl, hz, cell_lt hz⟩
end Go.Proofs.YtghpmhllpaheiaaGreatDoor
