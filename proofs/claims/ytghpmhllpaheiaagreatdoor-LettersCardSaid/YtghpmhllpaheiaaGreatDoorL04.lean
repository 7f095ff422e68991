/-
  Part of the proof: U10. No condition beyond those in the statements.
-/
import Derived.Shelf.Spec.DecodeRune
import Derived.Test.YtghpmhllpaheiaaGreatDoorL03
set_option linter.unusedVariables false
set_option linter.unusedSimpArgs false
namespace Go.Proofs.YtghpmhllpaheiaaGreatDoor
open Go.RowKit Go.Shelf
def renD : Go.Shelf.Ren := ⟨fun | 32 => 40 | 49 => 70 | n => n, fun | 25 => 165 | 30 => 55 | 33 => 103 | 66 => 161 | 68 => 163 | 69 => 164 | n => n, fun | 2 => 1 | 3 => 2 | n => n⟩
theorem layD : Go.Proofs.Lays7.n32 Tryz.prog renD := {
 mixed := by kernel_rfl
 f32 := Tryz.func40.trans (congrArg some (by kernel_rfl))
 f49 := Tryz.func70.trans (congrArg some (by kernel_rfl))
 t0 := Tryz.underlying0
 a0 := Tryz.isAgg0
 z0 := Tryz.sizeOf0
 v0 := Tryz.zeroValue0
 i0 := by kernel_rfl
 t3 := Tryz.underlying3
 a3 := Tryz.isAgg3
 z3 := Tryz.sizeOf3
 v3 := Tryz.zeroValue3
 i3 := by kernel_rfl
 t4 := Tryz.underlying4
 a4 := Tryz.isAgg4
 z4 := Tryz.sizeOf4
 v4 := Tryz.zeroValue4
 i4 := by kernel_rfl
 t5 := Tryz.underlying5
 a5 := Tryz.isAgg5
 z5 := Tryz.sizeOf5
 v5 := Tryz.zeroValue5
 i5 := by kernel_rfl
 t21 := Tryz.underlying21
 a21 := Tryz.isAgg21
 z21 := Tryz.sizeOf21
 v21 := Tryz.zeroValue21
 i21 := by kernel_rfl
 t25 := Tryz.underlying165
 a25 := Tryz.isAgg165
 z25 := Tryz.sizeOf165
 v25 := Tryz.zeroValue165
 i25 := by kernel_rfl
 t30 := Tryz.underlying55
 a30 := Tryz.isAgg55
 z30 := Tryz.sizeOf55
 v30 := Tryz.zeroValue55
 i30 := by kernel_rfl
 t33 := Tryz.underlying103
 a33 := Tryz.isAgg103
 z33 := Tryz.sizeOf103
 v33 := Tryz.zeroValue103
 i33 := by kernel_rfl
 t66 := Tryz.underlying161
 a66 := Tryz.isAgg161
 z66 := Tryz.sizeOf161
 t68 := Tryz.underlying163
 a68 := Tryz.isAgg163
 z68 := Tryz.sizeOf163
 v68 := Tryz.zeroValue163
 i68 := by kernel_rfl
 t69 := Tryz.underlying164
 a69 := Tryz.isAgg164
 z69 := Tryz.sizeOf164
 v69 := Tryz.zeroValue164
 i69 := by kernel_rfl
 g2 := by kernel_rfl
 g3 := by kernel_rfl }
theorem zgY (s : ByteArray) (b off cap : Nat) (w : World) (hT : Lib.Utf8Tabs 1 2 w)
 (hp : ∀ j, j < s.size -> w.cell? ⟨b, off + j, none⟩ = some (.int .u8 (s.get! j).toNat)) :
 Calls Tryz.prog 40 #[.slice (some ⟨b, off, none⟩) s.size cap] w fun e w' => e = .returned (.tuple #[.int .i32 (Lib.decodeGo s).1, .int .i64 (Lib.decodeGo s).2]) /\ Below w.heap.size w w' :=
 Any7.utf8_DecodeRune layD s b off cap w hT hp
end Go.Proofs.YtghpmhllpaheiaaGreatDoor
