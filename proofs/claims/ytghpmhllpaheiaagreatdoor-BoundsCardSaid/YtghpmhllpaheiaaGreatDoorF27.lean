/- Part of a proof. No condition. -/
import Derived.Test.YtghpmhllpaheiaaGreatDoorF25
import Derived.Test.YtghpmhllpaheiaaGreatDoorF26
set_option linter.unusedVariables false
set_option linter.unusedSimpArgs false
namespace Go.Proofs.YtghpmhllpaheiaaGreatDoor
open Go.RowKit Go.Lib
variable {w:World}
structure Gl (w:World):Prop where
 tabs:Tabs w
 wid:Wid w
 err:ErrT w
 size:mN<=w.heap.size
theorem Gl.below {w':World} (h:Gl w) {B:Nat} (hb:Below B w w') (hB:mN<=B):Gl w':=
 ⟨sF h.tabs hb hB,h.wid.below hb hB,h.err.below hb (by unfold mN at hB;omega),zT h.size hb.size⟩
theorem Gl.later {w':World} (h:Gl w) (hb:Below w.heap.size w w'):Gl w':=h.below hb h.size
theorem Gl.pos (h:Gl w):0<w.heap.size:=by have:=h.size;unfold mN at this;omega
section
variable {N BT:Nat} {T:iP} {C xb:Nat} {x x':Sc} {ov:Value} {w w':World} {B bs bt sb bc cc br cr bg cg:Nat} {bv bv':Value}
end
def x0 (S:Src):Sc:=⟨⟨#[]⟩,0,0,0,1,1,S⟩
