/-
  Part of the proof: Fin2. No condition beyond those in the statements.
-/
import Derived.ChangeSlices
import Derived.Test.YtghpmhllpaheiaaGreatDoorK29
import Derived.Test.YtghpmhllpaheiaaGreatDoorK34
set_option linter.unusedVariables false
set_option linter.unusedSimpArgs false
namespace Go.Proofs.YtghpmhllpaheiaaGreatDoor
open Go.ChangeShapes Go.WideShapes Go.ChangeAt Go.RowKit Go.Lib
theorem cells3 : Tryz.prog.cellsOf 3 = 1 := by kernel_rfl
theorem ints_slice {P : Program} {W : World} {r : Reach} {b0 : Nat} {t e : TypeId} {v : Value} (ht : P.underlying t = some (.slice e)) (h : Value.okWide P W r b0 t v) : ∃ ao n cap, v = .slice ao n cap := okWide_slice ht h
set_option maxRecDepth 100000 in
theorem open_intsA {H : Type} {enc : TypeId × Value → H} {W : World} {base : Nat} {v : Value} {d : DataW H} {ps : List MemPlace} (hv : Value.okWide Tryz.prog W .any base 39 v) (hd : DataW.Trod enc Tryz.prog W 0 (fun _ => true) true 39 v d ps) :
 ∃ ao n cap, v = .slice ao n cap ∧ IntsAt W ao n := by
 obtain ⟨ao, n, cap, rfl⟩ := ints_slice Tryz.underlying39 hv; obtain ⟨fuel, hf⟩ := hd; refine ⟨ao, n, cap, rfl, fun i hi => ?_⟩
 rcases Go.ChangeShapes.open_ints Tryz.underlying39 Tryz.underlying3 cells3 hf with ⟨hc, _⟩ | ⟨a, len, cap', zs, hc, _, h1, h2, h3, _, h5, h6⟩
 · simp [Value.cells] at hc
   omega
 · simp [Value.cells] at hc
   obtain ⟨rfl, rfl, rfl⟩ := hc; simp only [if_true] at h3; have hz := h5 i (by omega); obtain ⟨b, off, sp⟩ := a; have hsp : sp = none := by
    cases sp with
    | none => rfl
    | some s =>
     have h0 := h5 0 (by omega); rw [show (⟨b, off, some s⟩ : Addr).add 0 = ⟨b, off, some s⟩ from rfl] at h0; have := cell_spot h0; cases this
   subst hsp; have hadd : (⟨b, off, none⟩ : Addr).add i = ⟨b, off + i, none⟩ := by unfold Addr.add; split <;> simp_all
   rw [hadd] at hz; have hm : zs.getD i 0 ∈ zs := by
    rw [List.getD_eq_getElem?_getD, List.getElem?_eq_getElem (by omega)]; exact List.getElem_mem _
   exact ⟨_, b, off, rfl, hz, cell_lt hz, int_range (h6 _ hm)⟩
end Go.Proofs.YtghpmhllpaheiaaGreatDoor
