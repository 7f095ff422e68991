/- Part of a proof. No condition. -/
import Derived.RangeFuncNested
import Derived.RangeFuncBound
import Derived.OwnWalkIn
import Derived.TacticsInMore
import Derived.LoopNIn
import Derived.LoopIn
import Derived.Test.YtghpmhllpaheiaaGreatDoorF24
set_option linter.unusedVariables false
set_option linter.unusedSimpArgs false
namespace Go.Proofs.YtghpmhllpaheiaaGreatDoor
section
open Go.RowKit Go.Lib
attribute [local go_sem] Oper.semAt_some
section
variable {F:Fence} {n:Nat} {P:Program}
end
section
variable {B bs bt sb C xb:Nat} {w0:World} {bv0:Value} {most:Int} {rec:Obj} {bv outv r1 r2:Value} {x:Sc} {toks:List Tk} {W W':World}
end
end
section
open Go.RowKit Go.Lib
attribute [local go_sem] Oper.semAt_some
end
section
open Go.RowKit Go.Lib
attribute [local go_sem] Oper.semAt_some
