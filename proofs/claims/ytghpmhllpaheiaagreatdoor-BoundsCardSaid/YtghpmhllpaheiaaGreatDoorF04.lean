/- Part of a proof. No condition. -/
import Derived.Shelf.Spec.DecodeRune
import Derived.Test.YtghpmhllpaheiaaGreatDoorF03
set_option linter.unusedVariables false
set_option linter.unusedSimpArgs false
namespace Go.Proofs.YtghpmhllpaheiaaGreatDoor
open Go.RowKit Go.Shelf
