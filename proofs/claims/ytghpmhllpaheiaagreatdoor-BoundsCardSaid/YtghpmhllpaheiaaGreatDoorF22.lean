/- Part of a proof. No condition. -/
import Derived.Lib.LazyBuf
import Derived.Test.YtghpmhllpaheiaaGreatDoorF21
set_option linter.unusedVariables false
set_option linter.unusedSimpArgs false
set_option maxRecDepth 100000
namespace Go.Proofs.YtghpmhllpaheiaaGreatDoor
open Go.RowKit Go.Lib
structure Pc where
 text:ByteArray
 n:Int
 kind:Int
structure Src where
 l:List Pc
 pos:Nat
 empty:Int
def errV (e:Nat):Value:=if e=0 then .nilIface else .iface 51 (.int .i64 e)
section
variable {B:Nat} {w w':World} {bs bt sb C:Nat} {buf:ByteArray} {why err:Nat} {aQ line col:Int} {S:Src} {bv:Value}
end
theorem zfm (cb tb B:Nat) (T:iP) (bc cc br cr bg cg:Nat) (w:World) (hc:w.heap[cb]?=some (.cells #[aK tb] 70 (0,0))) (hT:iW B w tb T bc cc br cr bg cg):
 Calls Tryz.prog 18 #[aK cb] w λe w'=>e=.returned (.int .i64 T.bound)/\w'=w:=by
 have c0:=aB _ _ 0 _ _ _ hc;simp only[zLa,zLb] at c0;have c3:=hT.c3;clear hc hT;go_enter Tryz.func18,Tryz.ntmps18;go_wp2;go_ret;exact⟨rfl,rfl⟩
theorem zcP:eY Tryz.prog 40 43 3 32:=eY.of (z:=.agg #[.string ⟨#[]⟩,.int .i64 0,.int .i64 0]) Tryz.underlying40 (by kernel_rfl) rfl (by decide)
def pR (l:List Pc):List Value:=l.flatMap λp=>[.string p.text,.int .i64 p.n,.int .i64 p.kind]
theorem zd9 (l:List Pc):∀ u∈pR l,u.oneCell'=true:=by
 intro u hu;simp only[pR,List.mem_flatMap,List.mem_cons,List.not_mem_nil,or_false] at hu;obtain⟨p,_,rfl|rfl|rfl⟩:=hu<;>rfl
