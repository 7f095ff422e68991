/- Part of a proof. No condition. -/
import Derived.Stop.Asserts
import Derived.Lib.IfaceEq
import Derived.Test.YtghpmhllpaheiaaGreatDoorF22
set_option linter.unusedVariables false
set_option linter.unusedSimpArgs false
set_option maxRecDepth 100000
set_option maxHeartbeats 4000000
namespace Go.Proofs.YtghpmhllpaheiaaGreatDoor
variable {k i:Int} {w:World} {v:Value} {e:Nat}
section
open Go.RowKit Go.Lib Go.Extern.Stop Go.Stop Go.Extern
theorem zeJ (v:Value) (w:World):(Extern.ReflectliteType.typeOf #[.iface 51 v]).run Tryz.prog w=.ok (.iface 180 (.agg #[.pointer (some ⟨4,51,none⟩)])) w:=by kernel_rfl
abbrev cmpE:Array Value->Sem Value:=Extern.ReflectliteType.method λt=>do Go.Extern.Rtype.noPackHeld "Comparable" t;pure (.bool (<-typeInfo t).comparable)
theorem noUnwrapE (v:Value) (xT:TypeId) (w:World):(Instr.typeAssert (.iface 51 v) xT 187 true).run Tryz.prog w=.ok (.tuple #[.nilIface,.bool false]) w:=run_typeAssert_lacksB Tryz.underlying187 (by kernel_rfl) (by kernel_rfl) v xT w
theorem zfJ (v:Value) (xT:TypeId) (w:World):(Instr.typeAssert (.iface 51 v) xT 189 true).run Tryz.prog w=.ok (.tuple #[.nilIface,.bool false]) w:=run_typeAssert_lacksB Tryz.underlying189 (by kernel_rfl) (by kernel_rfl) v xT w
end
section
open Go.RowKit Go.Lib
theorem gU {B:Nat} {a b c:World} (h:Below B a b) (k:Below b.heap.size b c) (hB:B<=b.heap.size):Below B a c:=
 ⟨k.os.trans h.os,k.tape.trans h.tape,k.output.trans h.output,zT h.size k.size,λx hx=>(k.block x (by omega)).trans (h.block x hx)⟩
theorem zeE {k:Nat} (h:k≠0):errV k=.iface 51 (.int .i64 k):=by unfold errV;rw[zN h]
structure Sc where
 buf:ByteArray
 why:Nat
 err:Nat
 pos:Int
 line:Int
 col:Int
 src:Src
structure Tk where
 rU:Int
 pos:Int
 line:Int
 col:Int
 text:ByteArray
end
section
open Go.RowKit Go.Lib Go.Extern.Stop Go.Stop Go.Extern
theorem rlm (z:Sem Value) (f:TypeId->Addr->Nat->Nat->Sem Value) (v:Value):
 ReflectliteValue.method z f #[v]=(do match<-ReflectliteValue.parts v with|none=>z|some (t,a,fl)=>f t a fl (fl%32)):=rfl
theorem rL (v x:Value):ReflectliteValue.set #[v,x]=(do
 let (some (dst,a,fl),some (src,b,_)):=(<-ReflectliteValue.parts v,<-ReflectliteValue.parts x)
  | unsupported (.noEntry "extern/(internal/reflectlite.Value).Set.zeroValue")
 if fl / ReflectliteValue.flagAddr%2==0 then unsupported (.noEntry "extern/(internal/reflectlite.Value).Set.unaddressable")
 let val<-loadVar src b
 if<-Rtype.directlyAssignable dst src then storeVar dst a val
 else if<-Rtype.implements dst src then
  if (<-Rtype.kind src)==20 then
   match val with
   | .nilIface=>unsupported (.noEntry "extern/reflectlite: a nil value of one interface type handed on as a value of another")
   | _=>storeVar dst a val
  else storeVar dst a (.iface src val)
 else panicString ("reflectlite.Set: value of type " ++(<-Rtype.spelt src)++ " is not assignable to type " ++(<-Rtype.spelt dst))
 pure (.tuple #[])):=rfl
theorem yC (x:Value) (w:World):(Go.method 447 180 (.agg #[x]) "Kind").run Tryz.prog w=.ok (195,x) w:=by kernel_rfl
theorem yB (x:Value) (w:World):(Go.method 447 180 (.agg #[x]) "Elem").run Tryz.prog w=.ok (208,.agg #[x]) w:=by kernel_rfl
theorem nD (x:Value) (w:World):(Go.method 447 180 (.agg #[x]) "Implements").run Tryz.prog w=.ok (209,.agg #[x]) w:=by kernel_rfl
theorem kX (x:Value) (w:World):(Go.method 447 180 (.agg #[x]) "AssignableTo").run Tryz.prog w=.ok (206,.agg #[x]) w:=by kernel_rfl
theorem zfi (w:World):(ReflectliteType.relation "AssignableTo" ReflectliteType.assignableTo #[.agg #[.pointer (some ⟨4,51,none⟩)],.iface 180 (.agg #[.pointer (some ⟨4,82,none⟩)])]).run Tryz.prog w=.ok (.bool false) w:=by kernel_rfl
theorem assignHit (w:World):(ReflectliteType.relation "AssignableTo" ReflectliteType.assignableTo #[.agg #[.pointer (some ⟨4,51,none⟩)],.iface 180 (.agg #[.pointer (some ⟨4,51,none⟩)])]).run Tryz.prog w=.ok (.bool true) w:=by kernel_rfl
theorem noAsE (v:Value) (xT:TypeId) (w:World):(Instr.typeAssert (.iface 51 v) xT 184 true).run Tryz.prog w=.ok (.tuple #[.nilIface,.bool false]) w:=run_typeAssert_lacksB Tryz.underlying184 (by kernel_rfl) (by kernel_rfl) v xT w
theorem zf3 (k:Int) (w:World):(ReflectliteValue.unpack (.iface 51 (.int .i64 k))).run Tryz.prog w
 =.ok (.agg #[.pointer (some ⟨4,51,none⟩),.pointer (some ⟨w.heap.size,0,none⟩),.int .u64 130]) (w.alloc (.cells #[.int .i64 k] 51)):=by kernel_rfl
theorem elemOfE (w:World):(Rtype.elem? 87).run Tryz.prog w=.ok (some 51) w:=by kernel_rfl
theorem mkE (p:Addr) (w:World):(ReflectliteValue.mk 51 p ReflectliteValue.flagAddr).run Tryz.prog w=.ok (.agg #[.pointer (some ⟨4,51,none⟩),.pointer (some p),.int .u64 386]) w:=by kernel_rfl
theorem zfe (t:Addr) (w:World):(ReflectliteValue.unpack (.iface 84 (.pointer (some t)))).run Tryz.prog w
 =.ok (.agg #[.pointer (some ⟨4,84,none⟩),.pointer (some ⟨w.heap.size,0,none⟩),.int .u64 150]) (w.alloc (.cells #[.pointer (some t)] 84)):=by kernel_rfl
theorem typeF (a:Addr) (w:World):(ReflectliteValue.methodAny (ReflectliteValue.valueError "reflectlite.Value.Type" 0) (λt _ _ _=>ReflectliteType.toType t) #[.agg #[.pointer (some ⟨4,84,none⟩),.pointer (some a),.int .u64 150]]).run Tryz.prog w
 =.ok (.iface 180 (.agg #[.pointer (some ⟨4,84,none⟩)])) w:=by kernel_rfl
theorem kindF (w:World):((ReflectliteType.abiMethod λt=>(λa:Nat=>Value.int IntKind.u8 (a:Int))<$>Rtype.kind t) #[.pointer (some ⟨4,84,none⟩)]).run Tryz.prog w=.ok (.int .u8 22) w:=by kernel_rfl
theorem kindEF (w:World):((ReflectliteType.abiMethod λt=>(λa:Nat=>Value.int IntKind.u8 (a:Int))<$>Rtype.kind t) #[.pointer (some ⟨4,82,none⟩)]).run Tryz.prog w=.ok (.int .u8 22) w:=by kernel_rfl
theorem partsF (a:Addr) (w:World):(ReflectliteValue.parts (.agg #[.pointer (some ⟨4,84,none⟩),.pointer (some a),.int .u64 150])).run Tryz.prog w=.ok (some (84,a,150)) w:=by kernel_rfl
theorem isNilF (a p:Addr) (W:World) (ha:W.cell? a=some (.pointer (some p))):
 (ReflectliteValue.method (ReflectliteValue.valueError "reflectlite.Value.IsNil" 0) ReflectliteValue.isNil #[.agg #[.pointer (some ⟨4,84,none⟩),.pointer (some a),.int .u64 150]]).run Tryz.prog W=.ok (.bool false) W:=by
 rw[rlm];simp only[Sem.run_bind,partsF,Result.andThen];simp[ReflectliteValue.isNil,loadVar,isAgg,underlying,Tryz.underlying84,ha,Result.andThen]
theorem elemF (w:World):(ReflectliteType.method ReflectliteType.elem #[.agg #[.pointer (some ⟨4,84,none⟩)]]).run Tryz.prog w=.ok (.iface 180 (.agg #[.pointer (some ⟨4,82,none⟩)])) w:=by kernel_rfl
theorem zaK (w:World):(ReflectliteType.relation "Implements" ReflectliteType.implements_ #[.agg #[.pointer (some ⟨4,82,none⟩)],.iface 180 (.agg #[.pointer (some ⟨4,34,none⟩)])]).run Tryz.prog w=.ok (.bool true) w:=by kernel_rfl
theorem valueOfE (t:Addr) (w:World):(ReflectliteValue.unpack (.iface 87 (.pointer (some t)))).run Tryz.prog w
 =.ok (.agg #[.pointer (some ⟨4,87,none⟩),.pointer (some ⟨w.heap.size,0,none⟩),.int .u64 150]) (w.alloc (.cells #[.pointer (some t)] 87)):=by kernel_rfl
theorem typeE (a:Addr) (w:World):(ReflectliteValue.methodAny (ReflectliteValue.valueError "reflectlite.Value.Type" 0) (λt _ _ _=>ReflectliteType.toType t) #[.agg #[.pointer (some ⟨4,87,none⟩),.pointer (some a),.int .u64 150]]).run Tryz.prog w
 =.ok (.iface 180 (.agg #[.pointer (some ⟨4,87,none⟩)])) w:=by kernel_rfl
theorem kindE (w:World):((ReflectliteType.abiMethod λt=>(λa:Nat=>Value.int IntKind.u8 (a:Int))<$>Rtype.kind t) #[.pointer (some ⟨4,87,none⟩)]).run Tryz.prog w=.ok (.int .u8 22) w:=by kernel_rfl
theorem kindEE (w:World):((ReflectliteType.abiMethod λt=>(λa:Nat=>Value.int IntKind.u8 (a:Int))<$>Rtype.kind t) #[.pointer (some ⟨4,51,none⟩)]).run Tryz.prog w=.ok (.int .u8 2) w:=by kernel_rfl
theorem partsE (a:Addr) (w:World):(ReflectliteValue.parts (.agg #[.pointer (some ⟨4,87,none⟩),.pointer (some a),.int .u64 150])).run Tryz.prog w=.ok (some (87,a,150)) w:=by kernel_rfl
theorem isNilE (a p:Addr) (W:World) (ha:W.cell? a=some (.pointer (some p))):
 (ReflectliteValue.method (ReflectliteValue.valueError "reflectlite.Value.IsNil" 0) ReflectliteValue.isNil #[.agg #[.pointer (some ⟨4,87,none⟩),.pointer (some a),.int .u64 150]]).run Tryz.prog W=.ok (.bool false) W:=by
 rw[rlm];simp only[Sem.run_bind,partsE,Result.andThen];simp[ReflectliteValue.isNil,loadVar,isAgg,underlying,Tryz.underlying87,ha,Result.andThen]
theorem elemE (w:World):(ReflectliteType.method ReflectliteType.elem #[.agg #[.pointer (some ⟨4,87,none⟩)]]).run Tryz.prog w=.ok (.iface 180 (.agg #[.pointer (some ⟨4,51,none⟩)])) w:=by kernel_rfl
theorem zdU (w:World):(ReflectliteType.relation "Implements" ReflectliteType.implements_ #[.agg #[.pointer (some ⟨4,51,none⟩)],.iface 180 (.agg #[.pointer (some ⟨4,34,none⟩)])]).run Tryz.prog w=.ok (.bool true) w:=by kernel_rfl
theorem elemVE (a p:Addr) (W:World) (ha:W.cell? a=some (.pointer (some p))):
 (ReflectliteValue.method (ReflectliteValue.valueError "reflectlite.Value.Elem" 0) ReflectliteValue.elem #[.agg #[.pointer (some ⟨4,87,none⟩),.pointer (some a),.int .u64 150]]).run Tryz.prog W
  =.ok (.agg #[.pointer (some ⟨4,51,none⟩),.pointer (some p),.int .u64 386]) W:=by
 rw[rlm];simp only[Sem.run_bind,partsE,Result.andThen];simp[ReflectliteValue.elem,loadVar,isAgg,underlying,Tryz.underlying87,ha,Result.andThen,elemOfE,mkE]
theorem partsIa (a:Addr) (w:World):(ReflectliteValue.parts (.agg #[.pointer (some ⟨4,51,none⟩),.pointer (some a),.int .u64 386])).run Tryz.prog w=.ok (some (51,a,386)) w:=by kernel_rfl
theorem partsI (a:Addr) (w:World):(ReflectliteValue.parts (.agg #[.pointer (some ⟨4,51,none⟩),.pointer (some a),.int .u64 130])).run Tryz.prog w=.ok (some (51,a,130)) w:=by kernel_rfl
theorem directE (w:World):(Rtype.directlyAssignable 51 51).run Tryz.prog w=.ok true w:=by kernel_rfl
theorem setE (ta b:Addr) (k:Int) (old:Value) (W:World) (hb:W.cell? b=some (.int .i64 k)) (ht:W.cell? ta=some old) (hf:W.frozen? ta=false):
 (ReflectliteValue.set #[.agg #[.pointer (some ⟨4,51,none⟩),.pointer (some ta),.int .u64 386],.agg #[.pointer (some ⟨4,51,none⟩),.pointer (some b),.int .u64 130]]).run Tryz.prog W
  =.ok (.tuple #[]) (W.setCell ta (.int .i64 k)):=by
 rw[rL];simp only[Sem.run_bind,partsIa,partsI,Result.andThen];simp[ReflectliteValue.flagAddr,loadVar,isAgg,underlying,Tryz.underlying51,hb,Result.andThen,directE,storeVar,Value.cells,storeCells,Addr.add];rw[run_store Tryz.prog W ta _ _ (by rfl)];simp[ht,hf]
theorem as_miss (k:Nat) (t:Addr) (w:World) (hg:w.cell? ⟨0,0,none⟩=some (.iface 180 (.agg #[.pointer (some ⟨4,34,none⟩)]))):
 Calls Tryz.prog 32 #[.iface 51 (.int .i64 k),.iface 84 (.pointer (some t))] w λev w'=>ev=.returned (.bool false)/\w'=(((w.alloc (.cells #[.pointer (some t)] 84)).alloc (.cells #[.pointer (some ⟨4,84,none⟩),.pointer (some ⟨w.heap.size,0,none⟩),.int .u64 150] 120)).alloc (.cells #[.pointer (some ⟨4,84,none⟩),.pointer (some ⟨w.heap.size,0,none⟩),.int .u64 150] 120)):=by
 have h6:= @run_callFunc_extern Tryz.prog 51 _ (λargs=>ReflectliteValue.unpack (args.getD 0 (.tuple #[]))) Tryz.func51 (by kernel_rfl) (by kernel_rfl) (by kernel_rfl) (by kernel_rfl);have h7:= @run_callFunc_extern Tryz.prog 52 _ (ReflectliteValue.methodAny (ReflectliteValue.valueError "reflectlite.Value.Type" 0) (λt _ _ _=>ReflectliteType.toType t)) Tryz.func52 (by kernel_rfl) (by kernel_rfl) (by kernel_rfl) (by kernel_rfl)
 have h8:= @run_callFunc_extern Tryz.prog 53 _ (ReflectliteValue.method (ReflectliteValue.valueError "reflectlite.Value.IsNil" 0) ReflectliteValue.isNil) Tryz.func53 (by kernel_rfl) (by kernel_rfl) (by kernel_rfl) (by kernel_rfl);have RG:= @run_callFunc_extern Tryz.prog 195 _ (ReflectliteType.abiMethod λt=>do pure (.int .u8 (<-Rtype.kind t))) Tryz.func195 (by kernel_rfl) (by kernel_rfl) (by kernel_rfl) (by kernel_rfl)
 have RI:= @run_callFunc_extern Tryz.prog 208 _ (ReflectliteType.method ReflectliteType.elem) Tryz.func208 (by kernel_rfl) (by kernel_rfl) (by kernel_rfl) (by kernel_rfl);have RL:= @run_callFunc_extern Tryz.prog 209 _ (ReflectliteType.relation "Implements" ReflectliteType.implements_) Tryz.func209 (by kernel_rfl) (by kernel_rfl) (by kernel_rfl) (by kernel_rfl);have eg:= @run_callFunc_extern Tryz.prog 67 _ ReflectliteType.typeOf Tryz.func67 (by kernel_rfl) (by kernel_rfl) (by kernel_rfl) (by kernel_rfl)
 have RH:= @run_callFunc_extern Tryz.prog 206 _ (ReflectliteType.relation "AssignableTo" ReflectliteType.assignableTo) Tryz.func206 (by kernel_rfl) (by kernel_rfl) (by kernel_rfl) (by kernel_rfl);have tO:=zeJ;have mA:=kX;have f6:=zfe;have f7:=typeF;have mK:=yC;have mE:=yB;have mI:=nD;have k27:=kindF;have k25:=kindEF;have e27:=elemF;have i25:=zaK
 have n8:=isNilF ⟨w.heap.size,0,none⟩ t ((w.alloc (.cells #[.pointer (some t)] 84)).alloc (.cells #[.pointer (some ⟨4,84,none⟩),.pointer (some ⟨w.heap.size,0,none⟩),.int .u64 150] 120)) (by simp);have Hf:0<w.heap.size:=by
  rcases Nat.eq_zero_or_pos w.heap.size with h0|h
  . simp[World.cell?,h0] at hg
  exact h
 have qf:((w.alloc (.cells #[.pointer (some t)] 84)).alloc (.cells #[.pointer (some ⟨4,84,none⟩),.pointer (some ⟨w.heap.size,0,none⟩),.int .u64 150] 120)).cell? ⟨0,0,none⟩=some (.iface 180 (.agg #[.pointer (some ⟨4,34,none⟩)])):=by
  rw[World.cell?_alloc_lt _ _ ⟨0,0,none⟩ (by simp),World.cell?_alloc_lt _ _ ⟨0,0,none⟩ Hf];exact hg
 have a25:=zfi;have nA:=noAsE;have nU:=noUnwrapE;have nV:=zfJ;go_enter Tryz.func32,Tryz.ntmps32;go_wp2;refine wp_loop_rounds 1 ?_;rw[rounds_succ];go_wp2;go_ret;exact⟨rfl,rfl⟩
theorem as_hit (k:Nat) (t:Addr) (old:Value) (w:World) (hg:w.cell? ⟨0,0,none⟩=some (.iface 180 (.agg #[.pointer (some ⟨4,34,none⟩)]))) (DD:w.cell? t=some old) (YM:w.frozen? t=false):
 Calls Tryz.prog 32 #[.iface 51 (.int .i64 k),.iface 87 (.pointer (some t))] w λev w'=>ev=.returned (.bool true)/\w'=((((w.alloc (.cells #[.pointer (some t)] 87)).alloc (.cells #[.pointer (some ⟨4,87,none⟩),.pointer (some ⟨w.heap.size,0,none⟩),.int .u64 150] 120)).alloc (.cells #[.pointer (some ⟨4,87,none⟩),.pointer (some ⟨w.heap.size,0,none⟩),.int .u64 150] 120)).alloc (.cells #[.int .i64 (k:Int)] 51)).setCell t (.int .i64 k):=by
 have h6:= @run_callFunc_extern Tryz.prog 51 _ (λargs=>ReflectliteValue.unpack (args.getD 0 (.tuple #[]))) Tryz.func51 (by kernel_rfl) (by kernel_rfl) (by kernel_rfl) (by kernel_rfl);have h7:= @run_callFunc_extern Tryz.prog 52 _ (ReflectliteValue.methodAny (ReflectliteValue.valueError "reflectlite.Value.Type" 0) (λt _ _ _=>ReflectliteType.toType t)) Tryz.func52 (by kernel_rfl) (by kernel_rfl) (by kernel_rfl) (by kernel_rfl)
 have h8:= @run_callFunc_extern Tryz.prog 53 _ (ReflectliteValue.method (ReflectliteValue.valueError "reflectlite.Value.IsNil" 0) ReflectliteValue.isNil) Tryz.func53 (by kernel_rfl) (by kernel_rfl) (by kernel_rfl) (by kernel_rfl);have RG:= @run_callFunc_extern Tryz.prog 195 _ (ReflectliteType.abiMethod λt=>do pure (.int .u8 (<-Rtype.kind t))) Tryz.func195 (by kernel_rfl) (by kernel_rfl) (by kernel_rfl) (by kernel_rfl)
 have RI:= @run_callFunc_extern Tryz.prog 208 _ (ReflectliteType.method ReflectliteType.elem) Tryz.func208 (by kernel_rfl) (by kernel_rfl) (by kernel_rfl) (by kernel_rfl);have RL:= @run_callFunc_extern Tryz.prog 209 _ (ReflectliteType.relation "Implements" ReflectliteType.implements_) Tryz.func209 (by kernel_rfl) (by kernel_rfl) (by kernel_rfl) (by kernel_rfl);have eg:= @run_callFunc_extern Tryz.prog 67 _ ReflectliteType.typeOf Tryz.func67 (by kernel_rfl) (by kernel_rfl) (by kernel_rfl) (by kernel_rfl)
 have RH:= @run_callFunc_extern Tryz.prog 206 _ (ReflectliteType.relation "AssignableTo" ReflectliteType.assignableTo) Tryz.func206 (by kernel_rfl) (by kernel_rfl) (by kernel_rfl) (by kernel_rfl);have Um:= @run_callFunc_extern Tryz.prog 76 _ (ReflectliteValue.method (ReflectliteValue.valueError "reflectlite.Value.Elem" 0) ReflectliteValue.elem) Tryz.func76 (by kernel_rfl) (by kernel_rfl) (by kernel_rfl) (by kernel_rfl);have RE:= @run_callFunc_extern Tryz.prog 77 _ ReflectliteValue.set Tryz.func77 (by kernel_rfl) (by kernel_rfl) (by kernel_rfl) (by kernel_rfl);have tO:=zeJ
 have mA:=kX;have f6:=valueOfE;have f7:=typeE;have mK:=yC;have mE:=yB;have mI:=nD;have k27:=kindE;have k25:=kindEE;have e27:=elemE;have i25:=zdU;have n8:=isNilE ⟨w.heap.size,0,none⟩ t ((w.alloc (.cells #[.pointer (some t)] 87)).alloc (.cells #[.pointer (some ⟨4,87,none⟩),.pointer (some ⟨w.heap.size,0,none⟩),.int .u64 150] 120)) (by simp);have Hf:0<w.heap.size:=by
  rcases Nat.eq_zero_or_pos w.heap.size with h0|h
  . simp[World.cell?,h0] at hg
  exact h
 have qf:((w.alloc (.cells #[.pointer (some t)] 87)).alloc (.cells #[.pointer (some ⟨4,87,none⟩),.pointer (some ⟨w.heap.size,0,none⟩),.int .u64 150] 120)).cell? ⟨0,0,none⟩=some (.iface 180 (.agg #[.pointer (some ⟨4,34,none⟩)])):=by
  rw[World.cell?_alloc_lt _ _ ⟨0,0,none⟩ (by simp),World.cell?_alloc_lt _ _ ⟨0,0,none⟩ Hf];exact hg
 have a25:=assignHit;have v25:=zf3;have ud:t.block<w.heap.size:=by
  rcases zLg t.block w.heap.size with h|h
  . exact h
  simp[World.cell?,Array.getElem?_eq_none h] at DD
 have el:=elemVE ⟨w.heap.size,0,none⟩ t (((w.alloc (.cells #[.pointer (some t)] 87)).alloc (.cells #[.pointer (some ⟨4,87,none⟩),.pointer (some ⟨w.heap.size,0,none⟩),.int .u64 150] 120)).alloc (.cells #[.pointer (some ⟨4,87,none⟩),.pointer (some ⟨w.heap.size,0,none⟩),.int .u64 150] 120)) (by rw[World.cell?_alloc_lt _ _ ⟨w.heap.size,0,none⟩ (by simp;omega)];simp)
 have st:=setE t ⟨w.heap.size+1+1+1,0,none⟩ k old ((((w.alloc (.cells #[.pointer (some t)] 87)).alloc (.cells #[.pointer (some ⟨4,87,none⟩),.pointer (some ⟨w.heap.size,0,none⟩),.int .u64 150] 120)).alloc (.cells #[.pointer (some ⟨4,87,none⟩),.pointer (some ⟨w.heap.size,0,none⟩),.int .u64 150] 120)).alloc (.cells #[.int .i64 (k:Int)] 51))
  (by rw[World.cell?_alloc_at _ _ _ _ (by simp)];rfl)
  (by rw[World.cell?_alloc_lt _ _ t (by simp;omega),World.cell?_alloc_lt _ _ t (by simp;omega),World.cell?_alloc_lt _ _ t (by simp;omega),World.cell?_alloc_lt _ _ t ud];exact DD)
  (by rw[World.frozen?_alloc_old _ _ t (by simp;omega),World.frozen?_alloc_old _ _ t (by simp;omega),World.frozen?_alloc_old _ _ t (by simp;omega),World.frozen?_alloc_old _ _ t (Nat.ne_of_lt ud)];exact YM)
 go_enter Tryz.func32,Tryz.ntmps32;go_wp2;refine wp_loop_rounds 1 ?_;rw[rounds_succ];go_wp2;go_ret;exact⟨rfl,rfl⟩
end
section
open Go.RowKit Go.Lib
theorem as_hit2 (k b:Nat) (old:Value) (w:World) (hg:w.cell? ⟨0,0,none⟩=some (.iface 180 (.agg #[.pointer (some ⟨4,34,none⟩)]))) (ht:w.heap[b]?=some (.cells #[old] 51 (0,0))):
 Calls Tryz.prog 32 #[.iface 51 (.int .i64 k),.iface 87 (.pointer (some ⟨b,0,none⟩))] w λe w'=>e=.returned (.bool true)/\w'.heap[b]?=some (.cells #[.int .i64 k] 51 (0,0))/\w.grownBy w' (some b):=by
 have c0:=aB _ _ 0 _ _ _ ht;simp only[zLa,zLb] at c0;have lb:=aA ht;refine (as_hit k ⟨b,0,none⟩ old w hg c0 (aM _ _ 0 _ _ ht)).mono ?_;rintro e w' ⟨rfl,rfl⟩
 have Qa:=((((zBr w.heap.size w).alloc (zR _) (.cells #[.pointer (some ⟨b,0,none⟩)] 87)).alloc (by simp) (.cells #[.pointer (some ⟨4,87,none⟩),.pointer (some ⟨w.heap.size,0,none⟩),.int .u64 150] 120)).alloc (by simp;omega) (.cells #[.pointer (some ⟨4,87,none⟩),.pointer (some ⟨w.heap.size,0,none⟩),.int .u64 150] 120)).alloc (by simp;omega) (.cells #[.int .i64 (k:Int)] 51);exact⟨rfl,aC _ b 0 _ _ _ _ ((Qa.block b lb).trans ht),aD (aF Qa _) (eO _ b 0 _)⟩
def ErrT (w:World):Prop:=w.cell? ⟨0,0,none⟩=some (.iface 180 (.agg #[.pointer (some ⟨4,34,none⟩)]))
theorem ErrT.below {w':World} {B:Nat} (h:ErrT w) (hb:Below B w w') (hB:0<B):ErrT w':=(aL hb ⟨0,0,none⟩ hB).trans h
def toldV (k:Nat):Value:=if k=0 then .tuple #[.int .i64 0,.int .i64 0,.int .i64 0] else .tuple #[.int .i64 k,.int .i64 (-1),.int .i64 (-1)]
theorem zfd (k:Nat) (w:World) (hE:ErrT w) (h0:0<w.heap.size):Calls Tryz.prog 23 #[errV k] w λe w'=>e=.returned (toldV k)/\Below w.heap.size w w':=by
 by_cases hk:k=0
 . subst hk
   show Calls Tryz.prog 23 #[.nilIface] w _;go_enter Tryz.func23,Tryz.ntmps23;go_wp2_with (fail);exact bodyPost_ret (v:=.tuple #[.int .i64 0,.int .i64 0,.int .i64 0]) (by simp[results,Tryz.results23,go_sem]) rfl ⟨rfl,zBr _ _⟩
 rw[zeE hk]
 have Hk:Below w.heap.size w (w.alloc (.cells #[.pointer none] 82)):=(zBr _ w).alloc (zR _) _;have h1:=as_miss k ⟨w.heap.size,0,none⟩ (w.alloc (.cells #[.pointer none] 82)) (hE.below Hk h0);have HE:=zh hE;have HK:=zh hk;have H1:=zh h1;have Kb:=zh Hk;clear h1 hE hk Hk;go_enter Tryz.func23,Tryz.ntmps23;go_upto_region 6 with (go_at_call 32;refine H1.o.mono ?_;rintro e w2 ⟨rfl,QO⟩;have xj:=zh QO;clear QO)
 have Hr:Below w.heap.size w w2:=by
  rw[xj.o];exact ((Kb.o.alloc Kb.o.size _).alloc (by simp;omega) _).alloc (by simp;omega) _
 have YI:=zh Hr;have Qi:Below w.heap.size w (w2.alloc (.cells #[.int .i64 0] 51)):=Hr.alloc Hr.size _;have Sp:(w2.alloc (.cells #[.int .i64 0] 51)).heap[w2.heap.size]?=some (.cells #[.int .i64 0] 51 (0,0)):=bR _ _ _ rfl;have h2:=as_hit2 k w2.heap.size _ (w2.alloc (.cells #[.int .i64 0] 51)) (HE.o.below Qi h0) Sp;have H2:=zh h2;have H3:=zh Qi;clear h2 Qi Sp Hr
 go_wp2_with (first|(go_at_call 32;refine H2.o.mono ?_;rintro e w4 ⟨rfl,lm,Ve⟩;have k4:=aB _ _ 0 _ _ _ lm;simp only[zLa,zLb] at k4;have H4:=zh Ve;clear lm Ve));have Qa:Below w.heap.size w w4:=H3.o.grown H4.o H3.o.size (λg hg=>by cases hg;exact YI.o.size);refine bodyPost_ret (v:=.tuple #[.int .i64 k,.int .i64 (-1),.int .i64 (-1)]) (by simp[results,Tryz.results23,go_sem]) rfl ⟨by unfold toldV;rw[zN HK.o],Qa⟩
end
section
open Go.RowKit Go.Lib Go.Extern.Stop Go.Stop Go.Extern
theorem isTypeOfF (v:Value) (w:World):(Extern.ReflectliteType.typeOf #[.iface 82 v]).run Tryz.prog w=.ok (.iface 180 (.agg #[.pointer (some ⟨4,82,none⟩)])) w:=by kernel_rfl
theorem zfh (w:World):(ReflectliteType.relation "AssignableTo" ReflectliteType.assignableTo #[.agg #[.pointer (some ⟨4,82,none⟩)],.iface 180 (.agg #[.pointer (some ⟨4,82,none⟩)])]).run Tryz.prog w=.ok (.bool true) w:=by kernel_rfl
theorem valueOfP (p:Addr) (w:World):(ReflectliteValue.unpack (.iface 82 (.pointer (some p)))).run Tryz.prog w
 =.ok (.agg #[.pointer (some ⟨4,82,none⟩),.pointer (some ⟨w.heap.size,0,none⟩),.int .u64 150]) (w.alloc (.cells #[.pointer (some p)] 82)):=by kernel_rfl
theorem elemOfF (w:World):(Rtype.elem? 84).run Tryz.prog w=.ok (some 82) w:=by kernel_rfl
theorem mkF (p:Addr) (w:World):(ReflectliteValue.mk 82 p ReflectliteValue.flagAddr).run Tryz.prog w=.ok (.agg #[.pointer (some ⟨4,82,none⟩),.pointer (some p),.int .u64 406]) w:=by kernel_rfl
theorem elemVF (a p:Addr) (W:World) (ha:W.cell? a=some (.pointer (some p))):
 (ReflectliteValue.method (ReflectliteValue.valueError "reflectlite.Value.Elem" 0) ReflectliteValue.elem #[.agg #[.pointer (some ⟨4,84,none⟩),.pointer (some a),.int .u64 150]]).run Tryz.prog W
  =.ok (.agg #[.pointer (some ⟨4,82,none⟩),.pointer (some p),.int .u64 406]) W:=by
 rw[rlm];simp only[Sem.run_bind,partsF,Result.andThen];simp[ReflectliteValue.elem,loadVar,isAgg,underlying,Tryz.underlying84,ha,Result.andThen,elemOfF,mkF]
theorem partsPa (a:Addr) (w:World):(ReflectliteValue.parts (.agg #[.pointer (some ⟨4,82,none⟩),.pointer (some a),.int .u64 406])).run Tryz.prog w=.ok (some (82,a,406)) w:=by kernel_rfl
theorem partsP (a:Addr) (w:World):(ReflectliteValue.parts (.agg #[.pointer (some ⟨4,82,none⟩),.pointer (some a),.int .u64 150])).run Tryz.prog w=.ok (some (82,a,150)) w:=by kernel_rfl
theorem directF (w:World):(Rtype.directlyAssignable 82 82).run Tryz.prog w=.ok true w:=by kernel_rfl
theorem setF (ta b p:Addr) (old:Value) (W:World) (hb:W.cell? b=some (.pointer (some p))) (ht:W.cell? ta=some old) (hf:W.frozen? ta=false):
 (ReflectliteValue.set #[.agg #[.pointer (some ⟨4,82,none⟩),.pointer (some ta),.int .u64 406],.agg #[.pointer (some ⟨4,82,none⟩),.pointer (some b),.int .u64 150]]).run Tryz.prog W
  =.ok (.tuple #[]) (W.setCell ta (.pointer (some p))):=by
 rw[rL];simp only[Sem.run_bind,partsPa,partsP,Result.andThen];simp[ReflectliteValue.flagAddr,loadVar,isAgg,underlying,Tryz.underlying82,hb,Result.andThen,directF,storeVar,Value.cells,storeCells,Addr.add];rw[run_store Tryz.prog W ta _ _ (by rfl)];simp[ht,hf]
theorem as_fault (p t:Addr) (old:Value) (w:World) (hg:w.cell? ⟨0,0,none⟩=some (.iface 180 (.agg #[.pointer (some ⟨4,34,none⟩)]))) (DD:w.cell? t=some old) (YM:w.frozen? t=false):
 Calls Tryz.prog 32 #[.iface 82 (.pointer (some p)),.iface 84 (.pointer (some t))] w λev w'=>ev=.returned (.bool true)/\w'=((((w.alloc (.cells #[.pointer (some t)] 84)).alloc (.cells #[.pointer (some ⟨4,84,none⟩),.pointer (some ⟨w.heap.size,0,none⟩),.int .u64 150] 120)).alloc (.cells #[.pointer (some ⟨4,84,none⟩),.pointer (some ⟨w.heap.size,0,none⟩),.int .u64 150] 120)).alloc (.cells #[.pointer (some p)] 82)).setCell t (.pointer (some p)):=by
 have h6:= @run_callFunc_extern Tryz.prog 51 _ (λargs=>ReflectliteValue.unpack (args.getD 0 (.tuple #[]))) Tryz.func51 (by kernel_rfl) (by kernel_rfl) (by kernel_rfl) (by kernel_rfl);have h7:= @run_callFunc_extern Tryz.prog 52 _ (ReflectliteValue.methodAny (ReflectliteValue.valueError "reflectlite.Value.Type" 0) (λt _ _ _=>ReflectliteType.toType t)) Tryz.func52 (by kernel_rfl) (by kernel_rfl) (by kernel_rfl) (by kernel_rfl)
 have h8:= @run_callFunc_extern Tryz.prog 53 _ (ReflectliteValue.method (ReflectliteValue.valueError "reflectlite.Value.IsNil" 0) ReflectliteValue.isNil) Tryz.func53 (by kernel_rfl) (by kernel_rfl) (by kernel_rfl) (by kernel_rfl);have RG:= @run_callFunc_extern Tryz.prog 195 _ (ReflectliteType.abiMethod λt=>do pure (.int .u8 (<-Rtype.kind t))) Tryz.func195 (by kernel_rfl) (by kernel_rfl) (by kernel_rfl) (by kernel_rfl)
 have RI:= @run_callFunc_extern Tryz.prog 208 _ (ReflectliteType.method ReflectliteType.elem) Tryz.func208 (by kernel_rfl) (by kernel_rfl) (by kernel_rfl) (by kernel_rfl);have RL:= @run_callFunc_extern Tryz.prog 209 _ (ReflectliteType.relation "Implements" ReflectliteType.implements_) Tryz.func209 (by kernel_rfl) (by kernel_rfl) (by kernel_rfl) (by kernel_rfl);have eg:= @run_callFunc_extern Tryz.prog 67 _ ReflectliteType.typeOf Tryz.func67 (by kernel_rfl) (by kernel_rfl) (by kernel_rfl) (by kernel_rfl)
 have RH:= @run_callFunc_extern Tryz.prog 206 _ (ReflectliteType.relation "AssignableTo" ReflectliteType.assignableTo) Tryz.func206 (by kernel_rfl) (by kernel_rfl) (by kernel_rfl) (by kernel_rfl);have Um:= @run_callFunc_extern Tryz.prog 76 _ (ReflectliteValue.method (ReflectliteValue.valueError "reflectlite.Value.Elem" 0) ReflectliteValue.elem) Tryz.func76 (by kernel_rfl) (by kernel_rfl) (by kernel_rfl) (by kernel_rfl);have RE:= @run_callFunc_extern Tryz.prog 77 _ ReflectliteValue.set Tryz.func77 (by kernel_rfl) (by kernel_rfl) (by kernel_rfl) (by kernel_rfl);have tO:=isTypeOfF
 have mA:=kX;have f6:=zfe;have f7:=typeF;have mK:=yC;have mE:=yB;have mI:=nD;have k27:=kindF;have k25:=kindEF;have e27:=elemF;have i25:=zaK;have n8:=isNilF ⟨w.heap.size,0,none⟩ t ((w.alloc (.cells #[.pointer (some t)] 84)).alloc (.cells #[.pointer (some ⟨4,84,none⟩),.pointer (some ⟨w.heap.size,0,none⟩),.int .u64 150] 120)) (by simp);have Hf:0<w.heap.size:=by
  rcases Nat.eq_zero_or_pos w.heap.size with h0|h
  . simp[World.cell?,h0] at hg
  exact h
 have qf:((w.alloc (.cells #[.pointer (some t)] 84)).alloc (.cells #[.pointer (some ⟨4,84,none⟩),.pointer (some ⟨w.heap.size,0,none⟩),.int .u64 150] 120)).cell? ⟨0,0,none⟩=some (.iface 180 (.agg #[.pointer (some ⟨4,34,none⟩)])):=by
  rw[World.cell?_alloc_lt _ _ ⟨0,0,none⟩ (by simp),World.cell?_alloc_lt _ _ ⟨0,0,none⟩ Hf];exact hg
 have a25:=zfh;have v25:=valueOfP;have ud:t.block<w.heap.size:=by
  rcases zLg t.block w.heap.size with h|h
  . exact h
  simp[World.cell?,Array.getElem?_eq_none h] at DD
 have el:=elemVF ⟨w.heap.size,0,none⟩ t (((w.alloc (.cells #[.pointer (some t)] 84)).alloc (.cells #[.pointer (some ⟨4,84,none⟩),.pointer (some ⟨w.heap.size,0,none⟩),.int .u64 150] 120)).alloc (.cells #[.pointer (some ⟨4,84,none⟩),.pointer (some ⟨w.heap.size,0,none⟩),.int .u64 150] 120)) (by rw[World.cell?_alloc_lt _ _ ⟨w.heap.size,0,none⟩ (by simp;omega)];simp)
 have st:=setF t ⟨w.heap.size+1+1+1,0,none⟩ p old ((((w.alloc (.cells #[.pointer (some t)] 84)).alloc (.cells #[.pointer (some ⟨4,84,none⟩),.pointer (some ⟨w.heap.size,0,none⟩),.int .u64 150] 120)).alloc (.cells #[.pointer (some ⟨4,84,none⟩),.pointer (some ⟨w.heap.size,0,none⟩),.int .u64 150] 120)).alloc (.cells #[.pointer (some p)] 82))
  (by rw[World.cell?_alloc_at _ _ _ _ (by simp)];rfl)
  (by rw[World.cell?_alloc_lt _ _ t (by simp;omega),World.cell?_alloc_lt _ _ t (by simp;omega),World.cell?_alloc_lt _ _ t (by simp;omega),World.cell?_alloc_lt _ _ t ud];exact DD)
  (by rw[World.frozen?_alloc_old _ _ t (by simp;omega),World.frozen?_alloc_old _ _ t (by simp;omega),World.frozen?_alloc_old _ _ t (by simp;omega),World.frozen?_alloc_old _ _ t (Nat.ne_of_lt ud)];exact YM)
 go_enter Tryz.func32,Tryz.ntmps32;go_wp2;refine wp_loop_rounds 1 ?_;rw[rounds_succ];go_wp2;go_ret;exact⟨rfl,rfl⟩
theorem zcC (p:Addr) (b:Nat) (old:Value) (w:World) (hg:w.cell? ⟨0,0,none⟩=some (.iface 180 (.agg #[.pointer (some ⟨4,34,none⟩)]))) (ht:w.heap[b]?=some (.cells #[old] 82 (0,0))):
 Calls Tryz.prog 32 #[.iface 82 (.pointer (some p)),.iface 84 (.pointer (some ⟨b,0,none⟩))] w λe w'=>e=.returned (.bool true)/\w'.heap[b]?=some (.cells #[.pointer (some p)] 82 (0,0))/\w.grownBy w' (some b):=by
 have c0:=aB _ _ 0 _ _ _ ht;simp only[zLa,zLb] at c0;have lb:=aA ht;refine (as_fault p ⟨b,0,none⟩ old w hg c0 (aM _ _ 0 _ _ ht)).mono ?_;rintro e w' ⟨rfl,rfl⟩
 have Qa:=((((zBr w.heap.size w).alloc (zR _) (.cells #[.pointer (some ⟨b,0,none⟩)] 84)).alloc (by simp) (.cells #[.pointer (some ⟨4,84,none⟩),.pointer (some ⟨w.heap.size,0,none⟩),.int .u64 150] 120)).alloc (by simp;omega) (.cells #[.pointer (some ⟨4,84,none⟩),.pointer (some ⟨w.heap.size,0,none⟩),.int .u64 150] 120)).alloc (by simp;omega) (.cells #[.pointer (some p)] 82);exact⟨rfl,aC _ b 0 _ _ _ _ ((Qa.block b lb).trans ht),aD (aF Qa _) (eO _ b 0 _)⟩
end
section
open Go.RowKit Go.Lib
def zbS (w:World) (b:Nat) (e i k:Int):Prop:=w.heap[b]?=some (.cells #[.int .i64 e,.int .i64 i,.int .i64 k] 86 (0,0))
inductive sG (w:World):Value->Nat->Int->Int->Prop where
 | none:sG w .nilIface 0 0 0
 | num (e:Nat) (h:e≠0):sG w (.iface 51 (.int .i64 e)) e (-1) (-1)
 | fault (b:Nat) (e:Nat) (i k:Int) (h:e≠0) (hf:zbS w b e i k):sG w (.iface 82 (.pointer (some ⟨b,0,none⟩))) e i k
theorem sG.below {w':World} (h:sG w v e i k) (hb:Below w.heap.size w w'):sG w' v e i k:=by
 cases h with
 | none=>exact .none
 | num e h=>exact .num e h
 | fault b e i k h hf=>exact .fault b e i k h ((hb.block b (aA hf)).trans hf)
theorem toldF_any (b:Nat) (e i k:Int) (w:World) (hE:ErrT w) (h0:0<w.heap.size) (hF:zbS w b e i k):
 Calls Tryz.prog 23 #[.iface 82 (.pointer (some ⟨b,0,none⟩))] w λr w'=>r=.returned (.tuple #[.int .i64 e,.int .i64 i,.int .i64 k])/\Below w.heap.size w w':=by
 have Hk:Below w.heap.size w (w.alloc (.cells #[.pointer none] 82)):=(zBr _ w).alloc (zR _) _;have h1:=zcC ⟨b,0,none⟩ w.heap.size (.pointer none) (w.alloc (.cells #[.pointer none] 82)) (hE.below Hk h0) (bR _ _ _ rfl);have HF:=zh hF;have H1:=zh h1;have Kb:=zh Hk;clear h1 hE Hk hF;go_enter Tryz.func23,Tryz.ntmps23
 go_upto_region 5 with (go_at_call 32;refine H1.o.mono ?_;rintro e w2 ⟨rfl,Je,qf⟩;have k2:=aB _ _ 0 _ _ _ Je;simp only[zLa,zLb] at k2;have PM:=zh qf;clear Je qf)
 have Hr:Below w.heap.size w w2:=Kb.o.grown PM.o Kb.o.size (λg hg=>by cases hg;exact zR _);have IY:zbS w2 b e i k:=(Hr.block b (aA HF.o)).trans HF.o;have q0:=aB _ _ 0 _ _ _ IY;have q1:=aB _ _ 1 _ _ _ IY;have q2:=aB _ _ 2 _ _ _ IY;simp only[zLa,zLc,zLb] at q0 q1 q2;have YI:=zh Hr;clear IY Hr;go_quiet (fail);go_wp2_with (fail)
 exact bodyPost_ret (v:=.tuple #[.int .i64 e,.int .i64 i,.int .i64 k]) (by simp[results,Tryz.results23,go_sem]) rfl ⟨rfl,aV YI.o _⟩
theorem told_err (h:sG w v e i k) (hE:ErrT w) (h0:0<w.heap.size):
 Calls Tryz.prog 23 #[v] w λr w'=>r=.returned (.tuple #[.int .i64 e,.int .i64 i,.int .i64 k])/\Below w.heap.size w w':=by
 cases h with
 | none=>exact zfd 0 w hE h0
 | num e h=>
  have h1:=zfd e w hE h0;unfold toldV at h1;rw[zN h,zeE h] at h1;exact h1
 | fault b e i k h hf=>exact toldF_any b e i k w hE h0 hf
theorem zaN {i2 k2:Int} (h:sG w v e i k) (hE:ErrT w) (h0:0<w.heap.size) (hs:e=0\/(i2=i/\k2=k)):
 Calls Tryz.prog 105 #[v,.int .i64 e,.int .i64 i2,.int .i64 k2] w λr w'=>r=.returned (.bool true)/\Below w.heap.size w w':=by
 have Jr:∀ (x:Int) (w:World),Calls Tryz.prog 132 #[.int .i64 x] w λr w'=>r=.returned (.int .i64 x)/\w'=w:=by
  intro x w;go_enter Tryz.func132,Tryz.ntmps132;go_wp2;go_ret;exact⟨rfl,rfl⟩
 have HT:=zh (told_err h hE h0);have HN:=zh (Jr e);clear Jr;cases h with
 | none=>
  clear hs;go_enter Tryz.func105,Tryz.ntmps105;go_wp2_with (first|(go_at_call 23;refine HT.o.mono ?_;rintro e w2 ⟨rfl,Hr⟩;have YI:=zh Hr;clear Hr)|(go_at_call 132;refine (HN.o _).mono ?_;rintro e w3 ⟨rfl,rfl⟩));go_ret;exact⟨rfl,YI.o⟩
 | num e h=>
  obtain⟨rfl,rfl⟩:i2= -1/\k2= -1:=by rcases hs with hs|hs;exact absurd hs h;exact hs
  have hz:¬ (e:Int)=0:=by omega
  have K6:((e:Int)==0)=false:=beq_eq_false_iff_ne.2 hz;go_enter Tryz.func105,Tryz.ntmps105;go_wp2_with (first|(go_at_call 23;refine HT.o.mono ?_;rintro e w2 ⟨rfl,Hr⟩;have YI:=zh Hr;clear Hr)|(go_at_call 132;refine (HN.o _).mono ?_;rintro e w3 ⟨rfl,rfl⟩));go_ret;exact⟨rfl,YI.o⟩
 | fault b e i k h hf=>
  obtain⟨rfl,rfl⟩:i2=i/\k2=k:=by rcases hs with hs|hs;exact absurd hs h;exact hs
  have hz:¬ (e:Int)=0:=by omega
  have K6:((e:Int)==0)=false:=beq_eq_false_iff_ne.2 hz;clear hf;go_enter Tryz.func105,Tryz.ntmps105;go_wp2_with (first|(go_at_call 23;refine HT.o.mono ?_;rintro e w2 ⟨rfl,Hr⟩;have YI:=zh Hr;clear Hr)|(go_at_call 132;refine (HN.o _).mono ?_;rintro e w3 ⟨rfl,rfl⟩));go_ret;exact⟨rfl,YI.o⟩
