/-
  Part of the proof: BaP. No condition beyond those in the statements.
-/
import Derived.Test.YtghpmhllpaheiaaGreatDoorK00
set_option linter.unusedVariables false
set_option linter.unusedSimpArgs false
namespace Go.Proofs.YtghpmhllpaheiaaGreatDoor
open Go.RowKit Go.Lib
def putU : Nat → Nat → List Nat
 | 0, u => [u]
 | f + 1, u => if 128 ≤ u then (u % 128 + 128) :: putU f (u / 128) else [u]
def putI (n : Int) : List Nat := putU 5 (n + 1).toNat
def putL (l : List Int) : List Nat := l.flatMap putI
def strOf (l : List Nat) : ByteArray := ⟨(l.map UInt8.ofNat).toArray⟩
theorem putU_lt : ∀ (f u : Nat), u < 128 ^ (f + 1) → ∀ x ∈ putU f u, x < 256
 | 0, u, h, x, hx => by
  simp [putU] at hx; omega
 | f + 1, u, h, x, hx => by
  rw [putU] at hx; split at hx
  · rcases List.mem_cons.1 hx with rfl | hx
    · omega
    · exact putU_lt f (u / 128) (by rw [Nat.pow_succ] at h; omega) x hx
  · simp at hx
    omega
end Go.Proofs.YtghpmhllpaheiaaGreatDoor
