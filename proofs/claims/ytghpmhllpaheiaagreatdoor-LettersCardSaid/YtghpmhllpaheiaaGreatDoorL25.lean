/-
  Part of the proof: Al2, As1, Pl2, St1, St2, St3, St4. No condition beyond those in the statements.
-/
import Derived.Test.YtghpmhllpaheiaaGreatDoorL23
import Derived.Test.YtghpmhllpaheiaaGreatDoorL24
set_option linter.unusedVariables false
set_option linter.unusedSimpArgs false
set_option maxRecDepth 100000
set_option maxHeartbeats 4000000
namespace Go.Proofs.YtghpmhllpaheiaaGreatDoor
section
open Go.RowKit Go.Lib
abbrev ScX (B : Nat) (w : World) (bs bt sb C : Nat) (x : Sc) (bv : Value) : Prop := ScSt B w bs bt sb C x.buf x.why x.err x.pos x.line x.col x.src bv
def tkV (t : Tk) : Value := .agg #[.int .i64 t.rule, .int .i64 t.pos, .int .i64 t.line, .int .i64 t.col, .string t.text]
def NextSO (C B bs bt sb : Nat) (R : Tk × Nat × Sc) (bv : Value) (w : World) (e : Ending) (w' : World) : Prop :=
 e = .returned (.tuple #[tkV R.1, errV R.2.1]) /\ ∃ bv', ScX B w' bs bt sb C R.2.2 bv' /\ Keep bs sb bv bv' w w'
theorem zjE (B : Nat) (w : World) (bs bt sb C : Nat) (x : Sc) (bv : Value) (h : ScX B w bs bt sb C x bv) (hx : x.err ≠ 0) :
 Calls Tryz.prog 25 #[zaj bs] w (NextSO C B bs bt sb (tk0, x.err, x) bv w) := by
 have c5 := zab _ _ 5 _ _ _ h.sc; simp only [zLa, zLb, zLc] at c5; rw [zaS hx] at c5; have lbs := h.lt.2.2.1; have H := hid (And.intro h hx); clear h hx; go_enter Tryz.func25, Tryz.ntmps25; go_wp2_with (fail); refine zeo (rest := ?rest) 0 (fun _ _ _ => False) ?hf ?pass ?first
 case hf => rfl
 case pass => intro n a w1 hJ; exact hJ.elim
 case first =>
  intro hpass; clear hpass; go_wp2_with (fail); go_region_with (fail)
  all_goals go_wp2_with (fail)
  all_goals refine zbo ?_
  all_goals refine bodyPost_ret (v := .tuple #[.agg #[.int .i64 0, .int .i64 0, .int .i64 0, .int .i64 0, .string ⟨#[]⟩], .iface 51 (.int .i64 x.err)]) (by simp [Act.put, results, Tryz.results25, go_sem]) rfl ?_
  all_goals refine ⟨by rw [zaS H.out.2]; rfl, bv, H.out.1.below ?_, Keep.of_below ?_⟩
  all_goals exact ((Below.refl _ w).alloc (Nat.le_refl _) _).drew
theorem zgJ (T : Tab) (R0 : Nat) (hT : WfT T R0) (BT B : Nat) (w : World) (bs bt sb C bc cc br cr bg cg M : Nat) (x : Sc) (bv : Value) (h : ScX B w bs bt sb C x bv) (hTab : zbY BT w bt T bc cc br cr bg cg) (hTabs : Tabs w) (hG : Glob <= BT) (hBT : BT <= sb) (hC4 : 4 <= C) (hC2 : C <= 900000) (hw : ScWf M C x) (hM : M <= 100000000) :
 Calls Tryz.prog 25 #[zaj bs] w (NextSO C B bs bt sb (zdO T C x) bv w) := by
 by_cases hx : x.err = 0
 . have hl := hw.left
   have hli := hw.line; have hc := hw.col; have hp := hw.pos; have hn : ScSt B w bs bt sb C x.buf x.why 0 x.pos x.line x.col x.src bv := by rw [<- hx]; exact h
   refine (zjm T R0 hT BT B w bs bt sb C bc cc br cr bg cg x.buf x.why x.pos x.line x.col x.src bv hn hTab hTabs hG hBT hw.size hC4 hC2 (by omega) (by omega) (by omega)).mono ?_; intro e w' ho; unfold zdO; rw [if_neg (by omega)]; generalize zcs T C (C + 2) x.buf x.why x.src run0 = R at ho ⊢
   rcases R with ⟨r, buf, why, S⟩
   cases r with
   | err k => exact ho
   | tok rule len => exact ho
 unfold zdO
 rw [if_pos hx]; exact zjE B w bs bt sb C x bv h hx
end
section
open Go.RowKit Go.Lib Go.Extern.Stop Go.Stop Go.Extern
theorem rlm (z : Sem Value) (f : TypeId -> Addr -> Nat -> Nat -> Sem Value) (v : Value) :
 ReflectliteValue.method z f #[v] = (do match <- ReflectliteValue.parts v with | none => z | some (t, a, fl) => f t a fl (fl % 32)) := rfl
theorem rls (v x : Value) : ReflectliteValue.set #[v, x] = (do
 let (some (dst, a, fl), some (src, b, _)) := (<- ReflectliteValue.parts v, <- ReflectliteValue.parts x)
  | unsupported (.noEntry "extern/(internal/reflectlite.Value).Set.zeroValue")
 if fl / ReflectliteValue.flagAddr % 2 == 0 then unsupported (.noEntry "extern/(internal/reflectlite.Value).Set.unaddressable")
 let val <- loadVar src b
 if <- Rtype.directlyAssignable dst src then storeVar dst a val
 else if <- Rtype.implements dst src then
  if (<- Rtype.kind src) == 20 then
   match val with
   | .nilIface => unsupported (.noEntry "extern/reflectlite: a nil value of one interface type handed on as a value of another")
   | _ => storeVar dst a val
  else storeVar dst a (.iface src val)
 else panicString ("reflectlite.Set: value of type " ++ (<- Rtype.spelt src) ++ " is not assignable to type " ++ (<- Rtype.spelt dst))
 pure (.tuple #[])) := rfl
theorem zhH (x : Value) (w : World) : (Go.method 447 180 (.agg #[x]) "Kind").run Tryz.prog w = .ok (195, x) w := by kernel_rfl
theorem zhe (x : Value) (w : World) : (Go.method 447 180 (.agg #[x]) "Elem").run Tryz.prog w = .ok (208, .agg #[x]) w := by kernel_rfl
theorem zdK (x : Value) (w : World) : (Go.method 447 180 (.agg #[x]) "Implements").run Tryz.prog w = .ok (209, .agg #[x]) w := by kernel_rfl
theorem zde (x : Value) (w : World) : (Go.method 447 180 (.agg #[x]) "AssignableTo").run Tryz.prog w = .ok (206, .agg #[x]) w := by kernel_rfl
theorem zk7 (w : World) : (ReflectliteType.relation "AssignableTo" ReflectliteType.assignableTo #[.agg #[.pointer (some ⟨4, 51, none⟩)], .iface 180 (.agg #[.pointer (some ⟨4, 82, none⟩)])]).run Tryz.prog w = .ok (.bool false) w := by kernel_rfl
theorem assignHit (w : World) : (ReflectliteType.relation "AssignableTo" ReflectliteType.assignableTo #[.agg #[.pointer (some ⟨4, 51, none⟩)], .iface 180 (.agg #[.pointer (some ⟨4, 51, none⟩)])]).run Tryz.prog w = .ok (.bool true) w := by kernel_rfl
theorem noAsE (v : Value) (xT : TypeId) (w : World) : (Instr.typeAssert (.iface 51 v) xT 184 true).run Tryz.prog w = .ok (.tuple #[.nilIface, .bool false]) w := run_typeAssert_lacksB Tryz.underlying184 (by kernel_rfl) (by kernel_rfl) v xT w
theorem zkI (k : Int) (w : World) : (ReflectliteValue.unpack (.iface 51 (.int .i64 k))).run Tryz.prog w
 = .ok (.agg #[.pointer (some ⟨4, 51, none⟩), .pointer (some ⟨w.heap.size, 0, none⟩), .int .u64 130]) (w.alloc (.cells #[.int .i64 k] 51)) := by kernel_rfl
theorem elemOfE (w : World) : (Rtype.elem? 87).run Tryz.prog w = .ok (some 51) w := by kernel_rfl
theorem mkE (p : Addr) (w : World) : (ReflectliteValue.mk 51 p ReflectliteValue.flagAddr).run Tryz.prog w = .ok (.agg #[.pointer (some ⟨4, 51, none⟩), .pointer (some p), .int .u64 386]) w := by kernel_rfl
theorem valueOfF (t : Addr) (w : World) : (ReflectliteValue.unpack (.iface 84 (.pointer (some t)))).run Tryz.prog w
 = .ok (.agg #[.pointer (some ⟨4, 84, none⟩), .pointer (some ⟨w.heap.size, 0, none⟩), .int .u64 150]) (w.alloc (.cells #[.pointer (some t)] 84)) := by kernel_rfl
theorem typeF (a : Addr) (w : World) : (ReflectliteValue.methodAny (ReflectliteValue.valueError "reflectlite.Value.Type" 0) (fun t _ _ _ => ReflectliteType.toType t) #[.agg #[.pointer (some ⟨4, 84, none⟩), .pointer (some a), .int .u64 150]]).run Tryz.prog w
 = .ok (.iface 180 (.agg #[.pointer (some ⟨4, 84, none⟩)])) w := by kernel_rfl
theorem kindF (w : World) : ((ReflectliteType.abiMethod fun t => (fun a : Nat => Value.int IntKind.u8 (a : Int)) <$> Rtype.kind t) #[.pointer (some ⟨4, 84, none⟩)]).run Tryz.prog w = .ok (.int .u8 22) w := by kernel_rfl
theorem kindEF (w : World) : ((ReflectliteType.abiMethod fun t => (fun a : Nat => Value.int IntKind.u8 (a : Int)) <$> Rtype.kind t) #[.pointer (some ⟨4, 82, none⟩)]).run Tryz.prog w = .ok (.int .u8 22) w := by kernel_rfl
theorem partsF (a : Addr) (w : World) : (ReflectliteValue.parts (.agg #[.pointer (some ⟨4, 84, none⟩), .pointer (some a), .int .u64 150])).run Tryz.prog w = .ok (some (84, a, 150)) w := by kernel_rfl
theorem isNilF (a p : Addr) (W : World) (ha : W.cell? a = some (.pointer (some p))) :
 (ReflectliteValue.method (ReflectliteValue.valueError "reflectlite.Value.IsNil" 0) ReflectliteValue.isNil #[.agg #[.pointer (some ⟨4, 84, none⟩), .pointer (some a), .int .u64 150]]).run Tryz.prog W = .ok (.bool false) W := by
 rw [rlm]; simp only [Sem.run_bind, partsF, Result.andThen]; simp [ReflectliteValue.isNil, loadVar, isAgg, underlying, Tryz.underlying84, ha, Result.andThen]
theorem elemF (w : World) : (ReflectliteType.method ReflectliteType.elem #[.agg #[.pointer (some ⟨4, 84, none⟩)]]).run Tryz.prog w = .ok (.iface 180 (.agg #[.pointer (some ⟨4, 82, none⟩)])) w := by kernel_rfl
theorem zjo (w : World) : (ReflectliteType.relation "Implements" ReflectliteType.implements_ #[.agg #[.pointer (some ⟨4, 82, none⟩)], .iface 180 (.agg #[.pointer (some ⟨4, 34, none⟩)])]).run Tryz.prog w = .ok (.bool true) w := by kernel_rfl
theorem valueOfE (t : Addr) (w : World) : (ReflectliteValue.unpack (.iface 87 (.pointer (some t)))).run Tryz.prog w
 = .ok (.agg #[.pointer (some ⟨4, 87, none⟩), .pointer (some ⟨w.heap.size, 0, none⟩), .int .u64 150]) (w.alloc (.cells #[.pointer (some t)] 87)) := by kernel_rfl
theorem typeE (a : Addr) (w : World) : (ReflectliteValue.methodAny (ReflectliteValue.valueError "reflectlite.Value.Type" 0) (fun t _ _ _ => ReflectliteType.toType t) #[.agg #[.pointer (some ⟨4, 87, none⟩), .pointer (some a), .int .u64 150]]).run Tryz.prog w
 = .ok (.iface 180 (.agg #[.pointer (some ⟨4, 87, none⟩)])) w := by kernel_rfl
theorem kindE (w : World) : ((ReflectliteType.abiMethod fun t => (fun a : Nat => Value.int IntKind.u8 (a : Int)) <$> Rtype.kind t) #[.pointer (some ⟨4, 87, none⟩)]).run Tryz.prog w = .ok (.int .u8 22) w := by kernel_rfl
theorem kindEE (w : World) : ((ReflectliteType.abiMethod fun t => (fun a : Nat => Value.int IntKind.u8 (a : Int)) <$> Rtype.kind t) #[.pointer (some ⟨4, 51, none⟩)]).run Tryz.prog w = .ok (.int .u8 2) w := by kernel_rfl
theorem partsE (a : Addr) (w : World) : (ReflectliteValue.parts (.agg #[.pointer (some ⟨4, 87, none⟩), .pointer (some a), .int .u64 150])).run Tryz.prog w = .ok (some (87, a, 150)) w := by kernel_rfl
theorem isNilE (a p : Addr) (W : World) (ha : W.cell? a = some (.pointer (some p))) :
 (ReflectliteValue.method (ReflectliteValue.valueError "reflectlite.Value.IsNil" 0) ReflectliteValue.isNil #[.agg #[.pointer (some ⟨4, 87, none⟩), .pointer (some a), .int .u64 150]]).run Tryz.prog W = .ok (.bool false) W := by
 rw [rlm]; simp only [Sem.run_bind, partsE, Result.andThen]; simp [ReflectliteValue.isNil, loadVar, isAgg, underlying, Tryz.underlying87, ha, Result.andThen]
theorem elemE (w : World) : (ReflectliteType.method ReflectliteType.elem #[.agg #[.pointer (some ⟨4, 87, none⟩)]]).run Tryz.prog w = .ok (.iface 180 (.agg #[.pointer (some ⟨4, 51, none⟩)])) w := by kernel_rfl
theorem zjw (w : World) : (ReflectliteType.relation "Implements" ReflectliteType.implements_ #[.agg #[.pointer (some ⟨4, 51, none⟩)], .iface 180 (.agg #[.pointer (some ⟨4, 34, none⟩)])]).run Tryz.prog w = .ok (.bool true) w := by kernel_rfl
theorem elemVE (a p : Addr) (W : World) (ha : W.cell? a = some (.pointer (some p))) :
 (ReflectliteValue.method (ReflectliteValue.valueError "reflectlite.Value.Elem" 0) ReflectliteValue.elem #[.agg #[.pointer (some ⟨4, 87, none⟩), .pointer (some a), .int .u64 150]]).run Tryz.prog W
  = .ok (.agg #[.pointer (some ⟨4, 51, none⟩), .pointer (some p), .int .u64 386]) W := by
 rw [rlm]; simp only [Sem.run_bind, partsE, Result.andThen]; simp [ReflectliteValue.elem, loadVar, isAgg, underlying, Tryz.underlying87, ha, Result.andThen, elemOfE, mkE]
theorem partsIa (a : Addr) (w : World) : (ReflectliteValue.parts (.agg #[.pointer (some ⟨4, 51, none⟩), .pointer (some a), .int .u64 386])).run Tryz.prog w = .ok (some (51, a, 386)) w := by kernel_rfl
theorem partsI (a : Addr) (w : World) : (ReflectliteValue.parts (.agg #[.pointer (some ⟨4, 51, none⟩), .pointer (some a), .int .u64 130])).run Tryz.prog w = .ok (some (51, a, 130)) w := by kernel_rfl
theorem directE (w : World) : (Rtype.directlyAssignable 51 51).run Tryz.prog w = .ok true w := by kernel_rfl
theorem setE (ta b : Addr) (k : Int) (old : Value) (W : World) (hb : W.cell? b = some (.int .i64 k)) (ht : W.cell? ta = some old) (hf : W.frozen? ta = false) :
 (ReflectliteValue.set #[.agg #[.pointer (some ⟨4, 51, none⟩), .pointer (some ta), .int .u64 386], .agg #[.pointer (some ⟨4, 51, none⟩), .pointer (some b), .int .u64 130]]).run Tryz.prog W
  = .ok (.tuple #[]) (W.setCell ta (.int .i64 k)) := by
 rw [rls]; simp only [Sem.run_bind, partsIa, partsI, Result.andThen]; simp [ReflectliteValue.flagAddr, loadVar, isAgg, underlying, Tryz.underlying51, hb, Result.andThen, directE, storeVar, Value.cells, storeCells, Addr.add]; rw [run_store Tryz.prog W ta _ _ (by rfl)]; simp [ht, hf]
theorem as_miss (k : Nat) (t : Addr) (w : World) (hg : w.cell? ⟨0, 0, none⟩ = some (.iface 180 (.agg #[.pointer (some ⟨4, 34, none⟩)]))) :
 Calls Tryz.prog 32 #[.iface 51 (.int .i64 k), .iface 84 (.pointer (some t))] w fun ev w' => ev = .returned (.bool false) /\ w' = (((w.alloc (.cells #[.pointer (some t)] 84)).alloc (.cells #[.pointer (some ⟨4, 84, none⟩), .pointer (some ⟨w.heap.size, 0, none⟩), .int .u64 150] 120)).alloc (.cells #[.pointer (some ⟨4, 84, none⟩), .pointer (some ⟨w.heap.size, 0, none⟩), .int .u64 150] 120)) := by
 have h6 := @run_callFunc_extern Tryz.prog 51 _ (fun args => ReflectliteValue.unpack (args.getD 0 (.tuple #[]))) Tryz.func51 (by kernel_rfl) (by kernel_rfl) (by kernel_rfl) (by kernel_rfl); have h7 := @run_callFunc_extern Tryz.prog 52 _ (ReflectliteValue.methodAny (ReflectliteValue.valueError "reflectlite.Value.Type" 0) (fun t _ _ _ => ReflectliteType.toType t)) Tryz.func52 (by kernel_rfl) (by kernel_rfl) (by kernel_rfl) (by kernel_rfl)
 have h8 := @run_callFunc_extern Tryz.prog 53 _ (ReflectliteValue.method (ReflectliteValue.valueError "reflectlite.Value.IsNil" 0) ReflectliteValue.isNil) Tryz.func53 (by kernel_rfl) (by kernel_rfl) (by kernel_rfl) (by kernel_rfl); have h27 := @run_callFunc_extern Tryz.prog 195 _ (ReflectliteType.abiMethod fun t => do pure (.int .u8 (<- Rtype.kind t))) Tryz.func195 (by kernel_rfl) (by kernel_rfl) (by kernel_rfl) (by kernel_rfl)
 have h37 := @run_callFunc_extern Tryz.prog 208 _ (ReflectliteType.method ReflectliteType.elem) Tryz.func208 (by kernel_rfl) (by kernel_rfl) (by kernel_rfl) (by kernel_rfl); have h38 := @run_callFunc_extern Tryz.prog 209 _ (ReflectliteType.relation "Implements" ReflectliteType.implements_) Tryz.func209 (by kernel_rfl) (by kernel_rfl) (by kernel_rfl) (by kernel_rfl); have h10 := @run_callFunc_extern Tryz.prog 67 _ ReflectliteType.typeOf Tryz.func67 (by kernel_rfl) (by kernel_rfl) (by kernel_rfl) (by kernel_rfl)
 have h35 := @run_callFunc_extern Tryz.prog 206 _ (ReflectliteType.relation "AssignableTo" ReflectliteType.assignableTo) Tryz.func206 (by kernel_rfl) (by kernel_rfl) (by kernel_rfl) (by kernel_rfl); have h11 := @run_callFunc_extern Tryz.prog 76 _ (ReflectliteValue.method (ReflectliteValue.valueError "reflectlite.Value.Elem" 0) ReflectliteValue.elem) Tryz.func76 (by kernel_rfl) (by kernel_rfl) (by kernel_rfl) (by kernel_rfl); have h12 := @run_callFunc_extern Tryz.prog 77 _ ReflectliteValue.set Tryz.func77 (by kernel_rfl) (by kernel_rfl) (by kernel_rfl) (by kernel_rfl); have tO := zik
 have mA := zde; have f6 := valueOfF; have f7 := typeF; have mK := zhH; have mE := zhe; have mI := zdK; have k27 := kindF; have k25 := kindEF; have e27 := elemF; have i25 := zjo; have n8 := isNilF ⟨w.heap.size, 0, none⟩ t ((w.alloc (.cells #[.pointer (some t)] 84)).alloc (.cells #[.pointer (some ⟨4, 84, none⟩), .pointer (some ⟨w.heap.size, 0, none⟩), .int .u64 150] 120)) (by simp); have hlt : 0 < w.heap.size := by
  rcases Nat.eq_zero_or_pos w.heap.size with h0 | h
  . simp [World.cell?, h0] at hg
  exact h
 have hg2 : ((w.alloc (.cells #[.pointer (some t)] 84)).alloc (.cells #[.pointer (some ⟨4, 84, none⟩), .pointer (some ⟨w.heap.size, 0, none⟩), .int .u64 150] 120)).cell? ⟨0, 0, none⟩ = some (.iface 180 (.agg #[.pointer (some ⟨4, 34, none⟩)])) := by
  rw [World.cell?_alloc_lt _ _ ⟨0, 0, none⟩ (by simp), World.cell?_alloc_lt _ _ ⟨0, 0, none⟩ hlt]; exact hg
 have a25 := zk7; have nA := noAsE; have nU := ziW; have nV := zhf; go_enter Tryz.func32, Tryz.ntmps32; go_wp2; refine wp_loop_rounds 1 ?_; rw [rounds_succ]; go_wp2; go_ret; exact ⟨rfl, rfl⟩
theorem as_hit (k : Nat) (t : Addr) (old : Value) (w : World) (hg : w.cell? ⟨0, 0, none⟩ = some (.iface 180 (.agg #[.pointer (some ⟨4, 34, none⟩)]))) (ht0 : w.cell? t = some old) (hf0 : w.frozen? t = false) :
 Calls Tryz.prog 32 #[.iface 51 (.int .i64 k), .iface 87 (.pointer (some t))] w fun ev w' => ev = .returned (.bool true) /\ w' = ((((w.alloc (.cells #[.pointer (some t)] 87)).alloc (.cells #[.pointer (some ⟨4, 87, none⟩), .pointer (some ⟨w.heap.size, 0, none⟩), .int .u64 150] 120)).alloc (.cells #[.pointer (some ⟨4, 87, none⟩), .pointer (some ⟨w.heap.size, 0, none⟩), .int .u64 150] 120)).alloc (.cells #[.int .i64 (k : Int)] 51)).setCell t (.int .i64 k) := by
 have h6 := @run_callFunc_extern Tryz.prog 51 _ (fun args => ReflectliteValue.unpack (args.getD 0 (.tuple #[]))) Tryz.func51 (by kernel_rfl) (by kernel_rfl) (by kernel_rfl) (by kernel_rfl); have h7 := @run_callFunc_extern Tryz.prog 52 _ (ReflectliteValue.methodAny (ReflectliteValue.valueError "reflectlite.Value.Type" 0) (fun t _ _ _ => ReflectliteType.toType t)) Tryz.func52 (by kernel_rfl) (by kernel_rfl) (by kernel_rfl) (by kernel_rfl)
 have h8 := @run_callFunc_extern Tryz.prog 53 _ (ReflectliteValue.method (ReflectliteValue.valueError "reflectlite.Value.IsNil" 0) ReflectliteValue.isNil) Tryz.func53 (by kernel_rfl) (by kernel_rfl) (by kernel_rfl) (by kernel_rfl); have h27 := @run_callFunc_extern Tryz.prog 195 _ (ReflectliteType.abiMethod fun t => do pure (.int .u8 (<- Rtype.kind t))) Tryz.func195 (by kernel_rfl) (by kernel_rfl) (by kernel_rfl) (by kernel_rfl)
 have h37 := @run_callFunc_extern Tryz.prog 208 _ (ReflectliteType.method ReflectliteType.elem) Tryz.func208 (by kernel_rfl) (by kernel_rfl) (by kernel_rfl) (by kernel_rfl); have h38 := @run_callFunc_extern Tryz.prog 209 _ (ReflectliteType.relation "Implements" ReflectliteType.implements_) Tryz.func209 (by kernel_rfl) (by kernel_rfl) (by kernel_rfl) (by kernel_rfl); have h10 := @run_callFunc_extern Tryz.prog 67 _ ReflectliteType.typeOf Tryz.func67 (by kernel_rfl) (by kernel_rfl) (by kernel_rfl) (by kernel_rfl)
 have h35 := @run_callFunc_extern Tryz.prog 206 _ (ReflectliteType.relation "AssignableTo" ReflectliteType.assignableTo) Tryz.func206 (by kernel_rfl) (by kernel_rfl) (by kernel_rfl) (by kernel_rfl); have h11 := @run_callFunc_extern Tryz.prog 76 _ (ReflectliteValue.method (ReflectliteValue.valueError "reflectlite.Value.Elem" 0) ReflectliteValue.elem) Tryz.func76 (by kernel_rfl) (by kernel_rfl) (by kernel_rfl) (by kernel_rfl); have h12 := @run_callFunc_extern Tryz.prog 77 _ ReflectliteValue.set Tryz.func77 (by kernel_rfl) (by kernel_rfl) (by kernel_rfl) (by kernel_rfl); have tO := zik
 have mA := zde; have f6 := valueOfE; have f7 := typeE; have mK := zhH; have mE := zhe; have mI := zdK; have k27 := kindE; have k25 := kindEE; have e27 := elemE; have i25 := zjw; have n8 := isNilE ⟨w.heap.size, 0, none⟩ t ((w.alloc (.cells #[.pointer (some t)] 87)).alloc (.cells #[.pointer (some ⟨4, 87, none⟩), .pointer (some ⟨w.heap.size, 0, none⟩), .int .u64 150] 120)) (by simp); have hlt : 0 < w.heap.size := by
  rcases Nat.eq_zero_or_pos w.heap.size with h0 | h
  . simp [World.cell?, h0] at hg
  exact h
 have hg2 : ((w.alloc (.cells #[.pointer (some t)] 87)).alloc (.cells #[.pointer (some ⟨4, 87, none⟩), .pointer (some ⟨w.heap.size, 0, none⟩), .int .u64 150] 120)).cell? ⟨0, 0, none⟩ = some (.iface 180 (.agg #[.pointer (some ⟨4, 34, none⟩)])) := by
  rw [World.cell?_alloc_lt _ _ ⟨0, 0, none⟩ (by simp), World.cell?_alloc_lt _ _ ⟨0, 0, none⟩ hlt]; exact hg
 have a25 := assignHit; have v25 := zkI; have htl : t.block < w.heap.size := by
  rcases Nat.lt_or_ge t.block w.heap.size with h | h
  . exact h
  simp [World.cell?, Array.getElem?_eq_none h] at ht0
 have el := elemVE ⟨w.heap.size, 0, none⟩ t (((w.alloc (.cells #[.pointer (some t)] 87)).alloc (.cells #[.pointer (some ⟨4, 87, none⟩), .pointer (some ⟨w.heap.size, 0, none⟩), .int .u64 150] 120)).alloc (.cells #[.pointer (some ⟨4, 87, none⟩), .pointer (some ⟨w.heap.size, 0, none⟩), .int .u64 150] 120)) (by rw [World.cell?_alloc_lt _ _ ⟨w.heap.size, 0, none⟩ (by simp; omega)]; simp)
 have st := setE t ⟨w.heap.size + 1 + 1 + 1, 0, none⟩ k old ((((w.alloc (.cells #[.pointer (some t)] 87)).alloc (.cells #[.pointer (some ⟨4, 87, none⟩), .pointer (some ⟨w.heap.size, 0, none⟩), .int .u64 150] 120)).alloc (.cells #[.pointer (some ⟨4, 87, none⟩), .pointer (some ⟨w.heap.size, 0, none⟩), .int .u64 150] 120)).alloc (.cells #[.int .i64 (k : Int)] 51))
  (by rw [World.cell?_alloc_at _ _ _ _ (by simp)]; rfl)
  (by rw [World.cell?_alloc_lt _ _ t (by simp; omega), World.cell?_alloc_lt _ _ t (by simp; omega), World.cell?_alloc_lt _ _ t (by simp; omega), World.cell?_alloc_lt _ _ t htl]; exact ht0)
  (by rw [World.frozen?_alloc_old _ _ t (by simp; omega), World.frozen?_alloc_old _ _ t (by simp; omega), World.frozen?_alloc_old _ _ t (by simp; omega), World.frozen?_alloc_old _ _ t (Nat.ne_of_lt htl)]; exact hf0)
 go_enter Tryz.func32, Tryz.ntmps32; go_wp2; refine wp_loop_rounds 1 ?_; rw [rounds_succ]; go_wp2; go_ret; exact ⟨rfl, rfl⟩
end
section
open Go.RowKit Go.Lib
theorem as_hit2 (k b : Nat) (old : Value) (w : World) (hg : w.cell? ⟨0, 0, none⟩ = some (.iface 180 (.agg #[.pointer (some ⟨4, 34, none⟩)]))) (ht : w.heap[b]? = some (.cells #[old] 51 (0, 0))) :
 Calls Tryz.prog 32 #[.iface 51 (.int .i64 k), .iface 87 (.pointer (some ⟨b, 0, none⟩))] w fun e w' => e = .returned (.bool true) /\ w'.heap[b]? = some (.cells #[.int .i64 k] 51 (0, 0)) /\ w.grownBy w' (some b) := by
 have c0 := zab _ _ 0 _ _ _ ht; simp only [zLa, zLb] at c0; have lb := zaa ht; refine (as_hit k ⟨b, 0, none⟩ old w hg c0 (zae _ _ 0 _ _ ht)).mono ?_; rintro e w' ⟨rfl, rfl⟩
 have hb4 := ((((Below.refl w.heap.size w).alloc (Nat.le_refl _) (.cells #[.pointer (some ⟨b, 0, none⟩)] 87)).alloc (by simp) (.cells #[.pointer (some ⟨4, 87, none⟩), .pointer (some ⟨w.heap.size, 0, none⟩), .int .u64 150] 120)).alloc (by simp; omega) (.cells #[.pointer (some ⟨4, 87, none⟩), .pointer (some ⟨w.heap.size, 0, none⟩), .int .u64 150] 120)).alloc (by simp; omega) (.cells #[.int .i64 (k : Int)] 51); exact ⟨rfl, zac _ b 0 _ _ _ _ ((hb4.block b lb).trans ht), zad (zah hb4 _) (zag _ b 0 _)⟩
def ErrT (w : World) : Prop := w.cell? ⟨0, 0, none⟩ = some (.iface 180 (.agg #[.pointer (some ⟨4, 34, none⟩)]))
theorem ErrT.below {w w' : World} {B : Nat} (h : ErrT w) (hb : Below B w w') (hB : 0 < B) : ErrT w' := (zai hb ⟨0, 0, none⟩ hB).trans h
def toldV (k : Nat) : Value := if k = 0 then .tuple #[.int .i64 0, .int .i64 0, .int .i64 0] else .tuple #[.int .i64 k, .int .i64 (-1), .int .i64 (-1)]
theorem told_any (k : Nat) (w : World) (hE : ErrT w) (h0 : 0 < w.heap.size) : Calls Tryz.prog 23 #[errV k] w fun e w' => e = .returned (toldV k) /\ Below w.heap.size w w' := by
 by_cases hk : k = 0
 . subst hk
   show Calls Tryz.prog 23 #[.nilIface] w _; go_enter Tryz.func23, Tryz.ntmps23; go_wp2_with (fail); exact bodyPost_ret (v := .tuple #[.int .i64 0, .int .i64 0, .int .i64 0]) (by simp [results, Tryz.results23, go_sem]) rfl ⟨rfl, Below.refl _ _⟩
 rw [zaS hk]
 have hb1 : Below w.heap.size w (w.alloc (.cells #[.pointer none] 82)) := (Below.refl _ w).alloc (Nat.le_refl _) _; have h1 := as_miss k ⟨w.heap.size, 0, none⟩ (w.alloc (.cells #[.pointer none] 82)) (hE.below hb1 h0); have HE := hid hE; have HK := hid hk; have H1 := hid h1; have HB1 := hid hb1; clear h1 hE hk hb1; go_enter Tryz.func23, Tryz.ntmps23; go_upto_region 6 with (first | (go_at_call 32; refine (H1.out).mono ?_; rintro e w2 ⟨rfl, hw2⟩; have HW2 := hid hw2; clear hw2))
 have hb2 : Below w.heap.size w w2 := by
  rw [HW2.out]; exact ((HB1.out.alloc HB1.out.size _).alloc (by simp; omega) _).alloc (by simp; omega) _
 have HB2 := hid hb2; have hb3 : Below w.heap.size w (w2.alloc (.cells #[.int .i64 0] 51)) := hb2.alloc hb2.size _; have he3 : (w2.alloc (.cells #[.int .i64 0] 51)).heap[w2.heap.size]? = some (.cells #[.int .i64 0] 51 (0, 0)) := zaB _ _ _ rfl; have h2 := as_hit2 k w2.heap.size _ (w2.alloc (.cells #[.int .i64 0] 51)) (HE.out.below hb3 h0) he3; have H2 := hid h2; have H3 := hid hb3; clear h2 hb3 he3 hb2
 go_wp2_with (first | (go_at_call 32; refine (H2.out).mono ?_; rintro e w4 ⟨rfl, hc4, hg4⟩; have k4 := zab _ _ 0 _ _ _ hc4; simp only [zLa, zLb] at k4; have l4 := zaa hc4; have H4 := hid hg4; clear hc4 hg4)); have hb4 : Below w.heap.size w w4 := H3.out.grown H4.out H3.out.size (fun g hg => by cases hg; exact HB2.out.size); refine bodyPost_ret (v := .tuple #[.int .i64 k, .int .i64 (-1), .int .i64 (-1)]) (by simp [results, Tryz.results23, go_sem]) rfl ⟨by unfold toldV; rw [if_neg HK.out], hb4⟩
end
section
open Go.RowKit Go.Lib
def za5 : List Pc -> Nat -> Int -> Nat -> ByteArray × Nat
 | [], _, _, _ => (ByteArray.empty, 13)
 | p :: r, pos, em, k =>
  if pos < p.text.size then
   (if p.kind = 5 then (p.text.extract pos p.text.size, 14)
    else if 8 <= 0 + (p.n - em).toNat then (p.text.extract pos p.text.size, 12)
    else if p.kind = 1 then (p.text.extract pos p.text.size, 14)
    else if p.kind = 2 \/ p.kind = 3 \/ p.kind = 4 then (p.text.extract pos p.text.size, 11)
    else (p.text.extract pos p.text.size ++ (za5 r 0 0 (0 + (p.n - em).toNat)).1, (za5 r 0 0 (0 + (p.n - em).toNat)).2))
  else if 8 <= k + (p.n - em).toNat then (ByteArray.empty, 12)
  else if p.kind = 1 \/ p.kind = 5 then (ByteArray.empty, 14)
  else if p.kind = 2 \/ p.kind = 3 \/ p.kind = 4 then (ByteArray.empty, 11)
  else za5 r 0 0 (k + (p.n - em).toNat)
def zcO (S : Src) (k : Nat) : ByteArray × Nat := za5 S.l S.pos S.empty k
theorem zeC : ∀ (l : List Pc) (pos : Nat) (em : Int) (k : Nat), (za5 l pos em k).2 ≠ 0
 | [], _, _, _ => by simp [za5]
 | p :: r, pos, em, k => by
  have h0 := zeC r 0 0 (0 + (p.n - em).toNat); have hk := zeC r 0 0 (k + (p.n - em).toNat); rw [za5]
  repeat' split
  all_goals first | exact h0 | exact hk | simp
theorem zhT (p : Pc) (r : List Pc) (pos q : Nat) (em : Int) (k : Nat) (hp : pos < p.text.size) (hq : pos < q) (hq2 : q <= p.text.size) (h5 : ¬ (p.kind = 5 /\ q = p.text.size)) :
 za5 (p :: r) pos em k = (p.text.extract pos q ++ (za5 (p :: r) q em 0).1, (za5 (p :: r) q em 0).2) := by
 have he : p.text.extract pos q ++ p.text.extract q p.text.size = p.text.extract pos p.text.size := by
  rw [ByteArray.extract_append_extract]; congr 1 <;> omega
 by_cases hlt : q < p.text.size
 . rw [za5, za5, if_pos hp, if_pos hlt]
   repeat' split
   all_goals simp only [<- ByteArray.append_assoc, he]
 obtain rfl : q = p.text.size := by omega
 have h5' : ¬ p.kind = 5 := fun e => h5 ⟨e, rfl⟩; rw [za5, za5, if_pos hp, if_neg (by omega : ¬ p.text.size < p.text.size), if_neg h5']; by_cases c1 : 8 <= 0 + (p.n - em).toNat
 . rw [if_pos c1, if_pos c1]; simp
 rw [if_neg c1, if_neg c1]
 by_cases c2 : p.kind = 1
 . rw [if_pos c2, if_pos (.inl c2)]; simp
 rw [if_neg c2, if_neg (show ¬ (p.kind = 1 \/ p.kind = 5) from fun e => e.elim c2 h5')]
 by_cases c3 : p.kind = 2 \/ p.kind = 3 \/ p.kind = 4
 . rw [if_pos c3, if_pos c3]; simp
 rw [if_neg c3, if_neg c3]
def ziX (st : ByteArray × Nat) (k : Nat) (R : Nat × Nat × ByteArray × Src) : Prop :=
 if R.2.1 ≠ 0 then st = (R.2.2.1.extract 0 R.1, R.2.1)
 else if 0 < R.1 then st = (R.2.2.1.extract 0 R.1 ++ (zcO R.2.2.2 0).1, (zcO R.2.2.2 0).2)
 else if k + 1 = 8 then st = (ByteArray.empty, 12) else st = zcO R.2.2.2 (k + 1)
def zkA (room : Nat) : Rd × ByteArray × Src -> Nat × Nat × ByteArray × Src
 | (.ret n e, b, S') => if n < 0 \/ (room : Int) < n then (0, 11, ⟨#[]⟩, S') else (n.toNat, e, b, S')
 | (.pan, _, S') => (0, 11, ⟨#[]⟩, S')
theorem zcY (room : Nat) (n : Int) (e : Nat) (b : ByteArray) (S' : Src) : zkA room (.ret n e, b, S') = if n < 0 \/ (room : Int) < n then (0, 11, ⟨#[]⟩, S') else (n.toNat, e, b, S') := rfl
theorem onceP_of (room : Nat) (S : Src) : zaY room S = zkA room (zbj room S.l S.pos S.empty) := by
 unfold zaY zkA zeR; rfl
theorem ext00 (b : ByteArray) : b.extract 0 0 = ByteArray.empty := by simp
theorem zgQ (room : Nat) (hr : 1 <= room) : ∀ (l : List Pc) (pos : Nat) (em : Int) (k : Nat), k < 8 -> ziX (za5 l pos em k) k (zkA room (zbj room l pos em))
 | [], pos, em, k, hk => by
  rw [zbj, zcY, za5, if_neg (by omega)]; unfold ziX; rw [if_pos (show ((13 : Nat) ≠ 0) by decide)]; show _ = (ByteArray.extract _ 0 0, 13); rw [ext00]
 | p :: r, pos, em, k, hk => by
  rw [zbj]; by_cases c1 : pos < p.text.size
  . rw [if_pos c1]
    obtain ⟨m, hm⟩ : ∃ m, m = min room (p.text.size - pos) := ⟨_, rfl⟩; rw [<- hm]; have hm1 : 1 <= m /\ pos + m <= p.text.size /\ m <= room := by omega
    have hz : (p.text.extract pos (pos + m)).extract 0 m = p.text.extract pos (pos + m) := by
     have := zbG p.text pos (pos + m) hm1.2.1; have e : (p.text.extract pos (pos + m)).size = m := by omega
     have h9 := ByteArray.extract_zero_size (b := p.text.extract pos (pos + m)); rw [e] at h9; exact h9
    rw [zcY, if_neg (by omega)]; unfold ziX; by_cases c5 : p.kind = 5 /\ pos + m = p.text.size
    . rw [if_pos c5, if_pos (show ((14 : Nat) ≠ 0) by decide)]
      dsimp only; rw [Int.toNat_natCast, hz, za5, if_pos c1, if_pos c5.1, c5.2]
    rw [if_neg c5, if_neg (show ¬ ((0 : Nat) ≠ 0) by decide), if_pos (show 0 < ((m : Nat) : Int).toNat by omega)]
    dsimp only [zcO]; rw [Int.toNat_natCast, hz, zhT p r pos (pos + m) em k c1 (by omega) hm1.2.1 c5]
  rw [if_neg c1, za5, if_neg c1]
  by_cases c2 : em < p.n
  . rw [if_pos c2]
    rw [zcY, if_neg (show ¬ ((0 : Int) < 0 \/ (room : Int) < 0) by omega)]; unfold ziX; rw [if_neg (show ¬ ((0 : Nat) ≠ 0) by decide), if_neg (show ¬ 0 < (0 : Int).toNat by decide)]; have hn : k + (p.n - em).toNat = (k + 1) + (p.n - (em + 1)).toNat := by omega
    by_cases c8 : k + 1 = 8
    . rw [if_pos c8, if_pos (by omega)]
    rw [if_neg c8]
    show _ = za5 (p :: r) pos (em + 1) (k + 1); rw [za5, if_neg c1, <- hn]
  rw [if_neg c2]
  have hn : (p.n - em).toNat = 0 := by omega
  rw [if_neg (by omega), hn, Nat.add_zero]; by_cases c3 : p.kind = 1 \/ p.kind = 5
  . rw [if_pos c3, if_pos c3]
    rw [zcY, if_neg (by omega)]; unfold ziX; rw [if_pos (show ((14 : Nat) ≠ 0) by decide)]; show _ = (ByteArray.extract _ 0 0, 14); rw [ext00]
  rw [if_neg c3, if_neg c3]
  have bad : ziX (ByteArray.empty, 11) k (0, 11, ⟨#[]⟩, ⟨p :: r, pos, em⟩) := by
   unfold ziX; rw [if_pos (show ((11 : Nat) ≠ 0) by decide), ext00]
  by_cases c4 : p.kind = 2
  . rw [if_pos (.inl c4), if_pos c4]
    rw [zcY, if_pos (by omega)]; exact bad
  by_cases c6 : p.kind = 3
  . rw [if_pos (.inr (.inl c6)), if_neg c4, if_pos c6]
    rw [zcY, if_pos (by omega)]; exact bad
  by_cases c7 : p.kind = 4
  . rw [if_pos (.inr (.inr c7)), if_neg c4, if_neg c6, if_pos c7]
    exact bad
  rw [if_neg (by omega), if_neg c4, if_neg c6, if_neg c7]
  exact zgQ room hr r 0 0 k hk
def repS (buf : ByteArray) (why : Nat) (S : Src) : ByteArray × Nat := if why = 0 then (buf ++ (zcO S 0).1, (zcO S 0).2) else (buf, why)
theorem zj7 (buf : ByteArray) (why : Nat) (S : Src) : (repS buf why S).2 ≠ 0 := by
 unfold repS; split
 . exact zeC _ _ _ _
 assumption
theorem zi6 (room : Nat) (hr : 1 <= room) : ∀ (j k : Nat) (buf : ByteArray) (S : Src), j + 1 + k = 8 -> repS (zdv room (j + 1) buf S).1 (zdv room (j + 1) buf S).2.1 (zdv room (j + 1) buf S).2.2 = (buf ++ (zcO S k).1, (zcO S k).2)
 | j, k, buf, S, hj => by
  have h := zgQ room hr S.l S.pos S.empty k (by omega); rw [<- onceP_of] at h; rw [show za5 S.l S.pos S.empty k = zcO S k from rfl] at h; rw [zdv]; unfold ziX at h; by_cases c1 : (zaY room S).2.1 ≠ 0
  . rw [if_pos c1] at h
    rw [if_pos (.inl c1), h]; show repS (buf ++ _) (zaY room S).2.1 _ = _; unfold repS; rw [if_neg c1]
  rw [if_neg c1] at h
  have c1' : (zaY room S).2.1 = 0 := by simpa using c1
  by_cases c2 : 0 < (zaY room S).1
  . rw [if_pos c2] at h
    rw [if_pos (.inr c2), h]; show repS (buf ++ _) (zaY room S).2.1 (zaY room S).2.2.2 = _; unfold repS; rw [if_pos c1', ByteArray.append_assoc]
  rw [if_neg c2] at h
  rw [if_neg (fun e => e.elim c1 c2)]; by_cases c8 : k + 1 = 8
  . rw [if_pos c8] at h
    obtain rfl : j = 0 := by omega
    rw [zdv, h]; show repS buf 12 _ = _; simp [repS]
  rw [if_neg c8] at h
  obtain ⟨j, rfl⟩ : ∃ i, j = i + 1 := ⟨j - 1, by omega⟩; rw [zi6 room hr j (k + 1) buf _ (by omega), h]
theorem moreP_rep (C : Nat) (buf : ByteArray) (S : Src) (h : buf.size < C) : repS (zbg C buf S).1 (zbg C buf S).2.1 (zbg C buf S).2.2 = repS buf 0 S := by
 unfold zbg; rw [zi6 (zir C buf.size) (by unfold zir; omega) 7 0 buf S rfl]; simp [repS]
end
section
open Go.RowKit Go.Lib
theorem zk0 (a b : ByteArray) : (a ++ b).extract 0 a.size = a := ByteArray.extract_append_eq_left rfl
theorem zgo {T : Tab} {s : ByteArray} : ∀ (f : Nat) (x : Run), -1 <= x.rule -> -1 <= (runT T s f x).rule
 | 0, x, h => h
 | f + 1, x, h => by
  rw [runT]; split
  . refine zgo f _ ?_
    unfold zcT; split
    . show -1 <= T.rule.getD _ (-1)
      omega
    exact h
  exact h
theorem zhP {s : ByteArray} (h : zb1 s 0 = false) : s.size <= 3 := by
 have := zet (zbR s 0) h; omega
theorem zgv {T : Tab} {R C : Nat} (hT : WfT T R) (hC : 4 <= C) : ∀ (n : Nat) (buf : ByteArray) (why : Nat) (S : Src) (x : Run), buf.size <= C -> x.alive <= buf.size -> -1 <= x.rule ->
 runT T (repS buf why S).1 ((repS buf why S).1.size + 1) x = runT T (repS buf why S).1 ((repS buf why S).1.size + 1) run0 -> (C - buf.size) + (if why = 0 then 1 else 0) < n ->
 (zcs T C n buf why S x).1 = zcf T C (repS buf why S).1 (repS buf why S).2 /\ repS (zcs T C n buf why S x).2.1 (zcs T C n buf why S x).2.2.1 (zcs T C n buf why S x).2.2.2 = repS buf why S
 | 0, buf, why, S, x, _, _, _, _, hn => by omega
 | n + 1, buf, why, S, x, hb, hx, hrl, hrun, hn => by
  obtain ⟨s, hs⟩ : ∃ s, s = (repS buf why S).1 := ⟨_, rfl⟩; obtain ⟨e, he⟩ : ∃ e, e = (repS buf why S).2 := ⟨_, rfl⟩; have he0 : e ≠ 0 := by rw [he]; exact zj7 _ _ _
  have hpre : s.extract 0 buf.size = buf /\ buf.size <= s.size := by
   rw [hs]; unfold repS; split
   . exact ⟨zk0 _ _, by show buf.size <= (buf ++ _).size; rw [zb5]; omega⟩
   exact ⟨ByteArray.extract_zero_size, Nat.le_refl _⟩
  have hwhy : why ≠ 0 -> s = buf /\ e = why := by
   intro h; rw [hs, he]; unfold repS; rw [if_neg h]; exact ⟨rfl, rfl⟩
  rw [<- hs] at hrun; rw [<- hs, <- he]; have hle := zdC (T := T) (s := buf) (buf.size + 1) x hx; have hrule := zgo (T := T) (s := buf) (buf.size + 1) x hrl; have hmono := zlb (T := T) hT (s := s) (m := buf.size) (f := buf.size + 1) (g := s.size + 1) (x := x) hpre.2 hx (by omega) (by omega); have hsame := zk9 (T := T) hT (s := s) (m := buf.size) (f := buf.size + 1) (g := s.size + 1) (x := x) hpre.2 hx (by omega) (by omega); have hgo := zf2 (T := T) (s := s) (m := buf.size) hpre.2 (buf.size + 1) (s.size + 1) x hx (by omega); rw [hpre.1] at hmono hsame hgo
  rw [hrun] at hmono hsame hgo; have hal := zdV (T := T) (s := buf) (x := runT T buf (buf.size + 1) x) hle.1; rw [zcs]; generalize hy : runT T buf (buf.size + 1) x = y at hle hrule hmono hsame hgo hal ⊢; have hrun' : why ≠ 0 -> runT T s (s.size + 1) run0 = y := by
   intro h; rw [<- hrun, (hwhy h).1]; exact hy
  unfold zcf; generalize hY : runT T s (s.size + 1) run0 = Y at hmono hsame hgo hrun' ⊢; dsimp only; by_cases c1 : C <= zbi T buf y
  . rw [if_pos c1, if_pos (by omega)]
    exact ⟨rfl, rfl⟩
  rw [if_neg c1]; by_cases c2 : (zbi T buf y = buf.size /\ why = 0) \/ (y.rule < 0 /\ why = 0 /\ zb1 buf 0 = false)
  . rw [if_pos c2]
    have hw0 : why = 0 := by rcases c2 with c | c; exact c.2; exact c.2.1
    have hlt : buf.size < C := by
     rcases c2 with c | c
     . omega
     have := zhP c.2.2; omega
    have hm := moreP_rep C buf S hlt; have hf := zeM C buf S hb; have hrep : repS (zbg C buf S).1 (zbg C buf S).2.1 (zbg C buf S).2.2 = (s, e) := by rw [hm, hs, he, hw0]
    have ih := zgv (T := T) (R := R) hT hC n (zbg C buf S).1 (zbg C buf S).2.1 (zbg C buf S).2.2 y hf.2.1 (by omega) hrule (by rw [hrep]; show runT T s (s.size + 1) y = _; rw [hgo]; exact hY.symm) (by
     by_cases h0 : (zbg C buf S).2.1 = 0
     . have := hf.2.2 h0
       rw [if_pos h0]; rw [if_pos hw0] at hn; omega
     rw [if_neg h0]; rw [if_pos hw0] at hn; omega)
    rw [hrep] at ih; unfold zcf at ih; dsimp only at ih; rw [hY] at ih; exact ⟨ih.1, by rw [ih.2]; exact Prod.ext hs he⟩
  rw [if_neg c2]; by_cases c3 : (zbi T buf y = buf.size /\ why ≠ 13) \/ (y.rule < 0 /\ why ≠ 13 /\ zb1 buf 0 = false) \/ buf.size = 0
  . rw [if_pos c3]
    have hw : why ≠ 0 := by
     intro h0; apply c2
     rcases c3 with c | c | c
     . exact .inl ⟨c.1, h0⟩
     . exact .inr ⟨c.1, h0, c.2.2⟩
     exact .inl ⟨by omega, h0⟩
    obtain ⟨rfl, rfl⟩ := hwhy hw; have hyY := hrun' hw; subst hyY; refine ⟨?_, rfl⟩; rw [if_neg c1]; by_cases d1 : zbi T s Y = s.size /\ e ≠ 13
    . rw [if_pos d1]
    rw [if_neg d1]
    by_cases d2 : s.size = 0
    . have : e = 13 := Decidable.byContradiction fun h => d1 ⟨by omega, h⟩
      rw [if_pos d2, this]
    rw [if_neg d2]
    rcases c3 with c | c | c
    . exact absurd c d1
    . rw [if_pos c.1, if_pos ⟨c.2.2, c.2.1⟩]
    exact absurd c d2
  rw [if_neg c3]
  refine ⟨?_, rfl⟩; have hz : buf.size ≠ 0 := fun h => c3 (.inr (.inr h)); by_cases hw : why = 0
  . have hlt : zbi T buf y < buf.size := by
     rcases Nat.lt_or_ge (zbi T buf y) buf.size with h | h
     . exact h
     exact absurd (.inl ⟨by omega, hw⟩) c2
    obtain ⟨rfl, ha⟩ := hsame hlt; rw [if_neg (show ¬ C <= zbi T s Y by omega), if_neg (show ¬ (zbi T s Y = s.size /\ e ≠ 13) by omega), if_neg (show ¬ s.size = 0 by omega)]; by_cases d3 : Y.rule < 0
    . have hf : zb1 buf 0 = true := by
       cases hf : zb1 buf 0 with
       | true => rfl
       | false => exact absurd (.inr ⟨d3, hw, hf⟩) c2
      have hf2 : zb1 s 0 = true := zka (m := buf.size) hpre.2 (by omega) (by rw [hpre.1]; exact hf); have hd := zfD (s := s) (m := buf.size) (p := 0) hpre.2 (by omega) (by rw [hpre.1]; exact hf); rw [hpre.1] at hd; rw [if_pos d3, if_pos d3, if_neg (by simp [hf2]), hd, show Y.rule = -1 by omega]
    rw [if_neg d3, if_neg d3]
  obtain ⟨rfl, rfl⟩ := hwhy hw
  have hyY := hrun' hw; subst hyY; rw [if_neg c1, if_neg (show ¬ (zbi T s Y = s.size /\ e ≠ 13) from fun h => c3 (.inl h)), if_neg (show ¬ s.size = 0 from hz)]; by_cases d3 : Y.rule < 0
  . rw [if_pos d3, if_pos d3, if_neg (fun h => c3 (.inr (.inl ⟨d3, h.2, h.1⟩))), show Y.rule = -1 by omega]
  rw [if_neg d3, if_neg d3]
theorem zkN {T : Tab} {R C : Nat} (hT : WfT T R) (hC : 4 <= C) (buf : ByteArray) (why : Nat) (S : Src) (hb : buf.size <= C) :
 (zcs T C (C + 2) buf why S run0).1 = zcf T C (repS buf why S).1 (repS buf why S).2 /\ repS (zcs T C (C + 2) buf why S run0).2.1 (zcs T C (C + 2) buf why S run0).2.2.1 (zcs T C (C + 2) buf why S run0).2.2.2 = repS buf why S :=
 zgv hT hC (C + 2) buf why S run0 hb (Nat.zero_le _) (Int.le_refl _) rfl (by split <;> omega)
end
section
open Go.RowKit Go.Lib
def za0 (T : Tab) (C e : Nat) : Nat -> ByteArray -> Int -> Int -> Int -> List Tk × Nat
 | 0, _, _, _, _ => ([], 0)
 | n + 1, s, pos, line, col =>
  match zcf T C s e with
  | .err k => ([], k)
  | .tok rule len =>
   (⟨rule, pos, line, col, s.extract 0 len⟩ :: (za0 T C e n (s.extract len s.size) (pos + len) (zaX (s.extract 0 len) (len + 1) 0 line col).1 (zaX (s.extract 0 len) (len + 1) 0 line col).2).1,
    (za0 T C e n (s.extract len s.size) (pos + len) (zaX (s.extract 0 len) (len + 1) 0 line col).1 (zaX (s.extract 0 len) (len + 1) 0 line col).2).2)
theorem zek {T : Tab} {C e rule' len : Nat} {s : ByteArray} {rule : Int} (h : zcf T C s e = .tok rule len) : 1 <= len /\ len <= s.size := by
 have hL := zfq (T := T) (s := s) (s.size + 1) run0 zgb; have hle := zdC (T := T) (s := s) (s.size + 1) run0 (Nat.zero_le _); unfold zcf at h; generalize runT T s (s.size + 1) run0 = y at h hL hle; dsimp only at h; split at h
 . cases h
 split at h
 . cases h
 split at h
 . cases h
 rename_i hz
 have hd := zbO s 0 (by omega); split at h
 . split at h
   . cases h
   cases h; omega
 cases h
 have := hL.1; have := hL.2 (by omega); omega
theorem ext_pre {a b : ByteArray} {n : Nat} (h : n <= a.size) : (a ++ b).extract 0 n = a.extract 0 n := by
 rw [ByteArray.extract_append, Nat.sub_eq_zero_of_le h]; simp
theorem ext_over {a : ByteArray} {n m : Nat} (h : a.size <= m) : a.extract n m = a.extract n a.size := by
 ext1
 rw [ByteArray.data_extract, ByteArray.data_extract]; have hz : a.data.size = a.size := rfl; apply Array.ext
 . simp; omega
 intro i h1 h2
 simp
theorem ext_suf {a b : ByteArray} {n : Nat} (h : n <= a.size) : (a ++ b).extract n (a ++ b).size = a.extract n a.size ++ b := by
 rw [ByteArray.extract_append, ByteArray.size_append]; have h1 : n - a.size = 0 := by omega
 have h2 : a.size + b.size - a.size = b.size := by omega
 rw [h1, h2, ByteArray.extract_zero_size]; congr 1; exact ext_over (by omega)
theorem repS_pre {buf : ByteArray} {why : Nat} {S : Src} {n : Nat} (h : n <= buf.size) : (repS buf why S).1.extract 0 n = buf.extract 0 n /\ repS (buf.extract n buf.size) why S = ((repS buf why S).1.extract n (repS buf why S).1.size, (repS buf why S).2) := by
 unfold repS; split
 . exact ⟨ext_pre h, Prod.ext (ext_suf h).symm rfl⟩
 exact ⟨rfl, rfl⟩
theorem nextS_e {T : Tab} {C : Nat} {x : Sc} {k : Nat} {buf : ByteArray} {why : Nat} {S : Src} (h0 : x.err = 0) (h : zcs T C (C + 2) x.buf x.why x.src run0 = (.err k, buf, why, S)) : zdO T C x = (tk0, k, ⟨buf, why, k, x.pos, x.line, x.col, S⟩) := by
 unfold zdO; rw [if_neg (show ¬ x.err ≠ 0 from fun hn => hn h0), h]
theorem nextS_t {T : Tab} {C : Nat} {x : Sc} {rule : Int} {len : Nat} {buf : ByteArray} {why : Nat} {S : Src} (h0 : x.err = 0) (h : zcs T C (C + 2) x.buf x.why x.src run0 = (.tok rule len, buf, why, S)) :
 zdO T C x = (⟨rule, x.pos, x.line, x.col, buf.extract 0 len⟩, 0, ⟨buf.extract len buf.size, why, 0, x.pos + len, (zaX (buf.extract 0 len) (len + 1) 0 x.line x.col).1, (zaX (buf.extract 0 len) (len + 1) 0 x.line x.col).2, S⟩) := by
 unfold zdO; rw [if_neg (show ¬ x.err ≠ 0 from fun hn => hn h0), h]
theorem zhc {T : Tab} {R C : Nat} (hT : WfT T R) (hC : 4 <= C) : ∀ (n : Nat) (x : Sc) (l : List Tk), x.err = 0 -> x.buf.size <= C ->
 (allL T C n x l).1 = l ++ (za0 T C (repS x.buf x.why x.src).2 n (repS x.buf x.why x.src).1 x.pos x.line x.col).1 /\ (allL T C n x l).2.1 = (za0 T C (repS x.buf x.why x.src).2 n (repS x.buf x.why x.src).1 x.pos x.line x.col).2 /\
 (allL T C n x l).2.2.err = (za0 T C (repS x.buf x.why x.src).2 n (repS x.buf x.why x.src).1 x.pos x.line x.col).2
 | 0, x, l, h0, hb => by
  show l = l ++ [] /\ 0 = 0 /\ x.err = 0; exact ⟨(List.append_nil l).symm, rfl, h0⟩
 | n + 1, x, l, h0, hb => by
  have hi := zkN (T := T) hT hC x.buf x.why x.src hb; have hf := zez (T := T) (C := C) (C + 2) x.buf x.why x.src run0 (Nat.zero_le _) zgb hb; have hE := zj7 x.buf x.why x.src
  rcases hR : repS x.buf x.why x.src with ⟨s, e⟩
  rw [hR] at hi hE; dsimp only at hi hE ⊢; unfold allL za0
  rcases hN : zcs T C (C + 2) x.buf x.why x.src run0 with ⟨r, buf, why, S⟩
  rw [hN] at hi hf; dsimp only at hi hf; rw [<- hi.1]; cases r with
  | err k =>
   rw [nextS_e h0 hN]; dsimp only; have hk : k ≠ 0 := by
    have h1 := hi.1.symm; unfold zcf at h1; intro h0'; subst h0'; dsimp only at h1
    repeat' split at h1
    all_goals first | (cases h1; done) | (cases h1; exact hE rfl)
   rw [if_pos hk]; exact ⟨(List.append_nil l).symm, rfl, rfl⟩
  | tok rule len =>
   rw [nextS_t h0 hN]; dsimp only; obtain ⟨k1, k2⟩ := hf.2.2 rule len rfl; have hp := repS_pre (why := why) (S := S) k2; rw [hi.2] at hp; dsimp only at hp; rw [if_neg (by simp), hp.1]; have hsz : (buf.extract len buf.size).size <= C := by
    have := zbG buf len buf.size (Nat.le_refl _); have := hf.2.1; omega
   have ih := zhc (T := T) hT hC n ⟨buf.extract len buf.size, why, 0, x.pos + len, (zaX (buf.extract 0 len) (len + 1) 0 x.line x.col).1, (zaX (buf.extract 0 len) (len + 1) 0 x.line x.col).2, S⟩ (l ++ [⟨rule, x.pos, x.line, x.col, buf.extract 0 len⟩]) rfl hsz; dsimp only at ih; rw [hp.2] at ih; dsimp only at ih; rw [List.append_assoc] at ih; exact ih
theorem nextS_err {T : Tab} {C : Nat} {x : Sc} (h : x.err ≠ 0) : zdO T C x = (tk0, x.err, x) := by
 unfold zdO; rw [if_pos h]
theorem zhk {T : Tab} {C : Nat} {s : ByteArray} (hC : s.size < C) {k : Nat} (h : zcf T C s 13 = .err k) : k = 13 /\ s.size = 0 := by
 have hle := zdC (T := T) (s := s) (s.size + 1) run0 (Nat.zero_le _); have hal := zdV (T := T) (s := s) (x := runT T s (s.size + 1) run0) hle.1; unfold zcf at h; dsimp only at h; rw [if_neg (by omega), if_neg (by simp)] at h; split at h
 . cases h; exact ⟨rfl, by assumption⟩
 split at h
 . rw [if_neg (by simp)] at h; cases h
 cases h
theorem zgx {T : Tab} {C : Nat} : ∀ (n : Nat) (s : ByteArray) (pos line col : Int), s.size < n -> s.size < C -> (za0 T C 13 n s pos line col).2 = 13
 | 0, s, pos, line, col, h, _ => by omega
 | n + 1, s, pos, line, col, h, hC => by
  rw [za0]; cases hR : zcf T C s 13 with
  | err k => exact (zhk hC hR).1
  | tok rule len =>
   have hl := zek (rule' := 0) hR; have hz := zbG s len s.size (Nat.le_refl _); exact zgx n (s.extract len s.size) _ _ _ (by omega) (by omega)
end
section
open Go.RowKit Go.Lib
def zgZ (s : ByteArray) : Nat -> Nat
 | 0 => 0
 | n + 1 => zgZ s n + if byt s n = 10 then 1 else 0
def atN (l : List Tk) (i : Nat) : Nat := ((l.take i).map (fun t => t.text.size)).sum
def lnN (l : List Tk) (i : Nat) : Nat := ((l.take i).map (fun t => zgZ t.text t.text.size)).sum
theorem zfZ (l : List Tk) : atN l 0 = 0 := by simp [atN]
theorem lnN_zero (l : List Tk) : lnN l 0 = 0 := by simp [lnN]
theorem atN_succ {l : List Tk} {i : Nat} {t : Tk} (h : l[i]? = some t) : atN l (i + 1) = atN l i + t.text.size := by
 simp [atN, List.take_add_one, h]
theorem zh4 (t : Tk) (l : List Tk) (i : Nat) : atN (t :: l) (i + 1) = t.text.size + atN l i := by simp [atN]
theorem lnN_cons (t : Tk) (l : List Tk) (i : Nat) : lnN (t :: l) (i + 1) = zgZ t.text t.text.size + lnN l i := by simp [lnN]
theorem dec_ten (s : ByteArray) (p : Nat) (h : p < s.size) : (byt s p = 10 /\ Utf8.decode s p = (10, 1)) \/ ((Utf8.decode s p).1 ≠ 10 /\ ∀ j, j < (Utf8.decode s p).2 -> byt s (p + j) ≠ 10) := by
 rw [zdt]; have h0 := zbR s p; have one : byt s p ≠ 10 -> ∀ j, j < 1 -> byt s (p + j) ≠ 10 := fun h j hj => by
  obtain rfl : j = 0 := by omega
  exact h
 by_cases g1 : byt s p < 128
 . have e : decodeN (s.size - p) (byt s p) (byt s (p + 1)) (byt s (p + 2)) (byt s (p + 3)) = (byt s p, 1) := by simp [decodeN, g1]
   rw [e]; by_cases h10 : byt s p = 10
   . exact .inl ⟨h10, by rw [h10]⟩
   exact .inr ⟨h10, one h10⟩
 by_cases g2 : byt s p < 194
 . rw [zcb (.inl ⟨by omega, g2⟩) h0]
   exact .inr ⟨by decide, one (by omega)⟩
 by_cases g3 : byt s p < 224
 . rw [zcD (by omega) g3]
   split
   . rename_i hh
     refine .inr ⟨by dsimp only; omega, fun j hj => ?_⟩; dsimp only at hj
     rcases (by omega : j = 0 \/ j = 1) with rfl | rfl
     . rw [Nat.add_zero]; omega
     omega
   exact .inr ⟨by decide, one (by omega)⟩
 by_cases g4 : byt s p < 240
 . rw [zcL (by omega) g4]
   split
   . rename_i hh
     refine .inr ⟨by dsimp only; omega, fun j hj => ?_⟩; dsimp only at hj
     rcases (by omega : j = 0 \/ j = 1 \/ j = 2) with rfl | rfl | rfl
     . rw [Nat.add_zero]; omega
     . omega
     omega
   exact .inr ⟨by decide, one (by omega)⟩
 by_cases g5 : byt s p < 245
 . rw [zcI (by omega) g5]
   split
   . rename_i hh
     refine .inr ⟨by dsimp only; omega, fun j hj => ?_⟩; dsimp only at hj
     rcases (by omega : j = 0 \/ j = 1 \/ j = 2 \/ j = 3) with rfl | rfl | rfl | rfl
     . rw [Nat.add_zero]; omega
     . omega
     . omega
     omega
   exact .inr ⟨by decide, one (by omega)⟩
 rw [zcb (.inr (by omega)) h0]
 exact .inr ⟨by decide, one (by omega)⟩
theorem zhd (s : ByteArray) (p : Nat) : ∀ w : Nat, (∀ j, j < w -> byt s (p + j) ≠ 10) -> zgZ s (p + w) = zgZ s p
 | 0, _ => rfl
 | w + 1, h => by
  rw [<- Nat.add_assoc, zgZ, if_neg (h w (by omega)), zhd s p w (fun j hj => h j (by omega))]; rfl
theorem zeD (s : ByteArray) : ∀ (f p : Nat) (line col : Int), p <= s.size -> s.size < f + p -> (zaX s f p line col).1 = line + (zgZ s s.size : Int) - (zgZ s p : Int)
 | 0, p, line, col, hp, hf => by omega
 | f + 1, p, line, col, hp, hf => by
  by_cases h : p < s.size
  . rw [zeJ s f p line col h]
    have hd := zbO s p h
    rcases dec_ten s p h with ⟨hb, he⟩ | ⟨hne, hall⟩
    . rw [he] at hd ⊢
      rw [if_pos rfl, zeD s f (p + 1) (line + 1) 1 (by omega) (by omega)]; rw [zgZ, if_pos hb]; omega
    rw [if_neg hne, zeD s f _ line (col + 1) hd.2 (by omega), zhd s p _ hall]
  rw [zfz s _ p line col (by omega)]
  obtain rfl : p = s.size := by omega
  dsimp only; omega
theorem zhF {T : Tab} {R : Nat} (hT : WfT T R) {s : ByteArray} : ∀ (f : Nat) (x : Run), x.rule < R -> (runT T s f x).rule < R
 | 0, x, h => h
 | f + 1, x, h => by
  rw [runT]; split
  . refine zhF hT f _ ?_
    unfold zcT; split
    . rename_i h0
      show T.rule.getD _ (-1) < (R : Int); generalize (zbQ T x.set (Utf8.decode s x.alive).1).toNat = j at h0 ⊢; rw [zLf] at h0 ⊢; cases hj : T.rule[j]? with
      | none => rw [hj] at h0; simp at h0
      | some v => exact (hT.ruleR v (List.mem_of_getElem? hj)).2
    exact h
  exact h
theorem zjQ {T : Tab} {R C e len : Nat} (hT : WfT T R) {s : ByteArray} {rule : Int} (h : zcf T C s e = .tok rule len) : -1 <= rule /\ rule < R /\ (rule < 0 -> len <= 4) := by
 have h1 := zgo (T := T) (s := s) (s.size + 1) run0 (Int.le_refl _); have h2 := zhF (T := T) (s := s) hT (s.size + 1) run0 (show (-1 : Int) < R by omega); unfold zcf at h; generalize runT T s (s.size + 1) run0 = y at h h1 h2; dsimp only at h; split at h
 . cases h
 split at h
 . cases h
 split at h
 . cases h
 rename_i hz
 split at h
 . split at h
   . cases h
   cases h
   refine ⟨Int.le_refl _, by omega, fun _ => ?_⟩; by_cases hb : (Utf8.decode s 0).1 = 65533 /\ (Utf8.decode s 0).2 = 1
   . rw [hb.2]; omega
   obtain ⟨x, k, hx, hh⟩ := zcd s 0 (by omega) hb
   rw [hx]; dsimp only; omega
 cases h
 exact ⟨h1, h2, fun h => by omega⟩
structure WholeT (R : Nat) (s : ByteArray) (pos line : Int) (l : List Tk) : Prop where
 tok : ∀ (i : Nat) (t : Tk), l[i]? = some t -> 1 <= t.text.size /\ t.pos = pos + atN l i /\ atN l i + t.text.size <= s.size /\ s.extract (atN l i) (atN l i + t.text.size) = t.text /\ t.line = line + lnN l i /\ 1 <= t.col /\ -1 <= t.rule /\ t.rule < R /\ (t.rule < 0 -> t.text.size <= 4)
 all : atN l l.length = s.size
theorem zgj {T : Tab} {R C : Nat} (hT : WfT T R) : ∀ (n : Nat) (s : ByteArray) (pos line col : Int), s.size < n -> s.size < C -> 1 <= line -> 1 <= col -> WholeT R s pos line (za0 T C 13 n s pos line col).1
 | 0, s, pos, line, col, h, _, _, _ => by omega
 | n + 1, s, pos, line, col, h, hC, hln, hcol => by
  rw [za0]; cases hR : zcf T C s 13 with
  | err k =>
   refine ⟨fun i t ht => by simp at ht, ?_⟩; have := (zhk hC hR).2; show atN [] 0 = s.size; rw [zfZ, this]
  | tok rule len =>
   have hl := zek (rule' := 0) hR; have hrl := zjQ hT hR; have hz := zbG s len s.size (Nat.le_refl _); have hz0 := zbk s len hl.2; have hb := zdb (s.extract 0 len) (len + 1) 0 line col hln hcol; have hLn := zeD (s.extract 0 len) (len + 1) 0 line col (Nat.zero_le _) (by omega); have ih := zgj (C := C) hT n (s.extract len s.size) (pos + len) (zaX (s.extract 0 len) (len + 1) 0 line col).1 (zaX (s.extract 0 len) (len + 1) 0 line col).2 (by omega) (by omega) hb.1 hb.2.2.1; dsimp only
   generalize (za0 T C 13 n (s.extract len s.size) (pos + len) (zaX (s.extract 0 len) (len + 1) 0 line col).1 (zaX (s.extract 0 len) (len + 1) 0 line col).2).1 = l at ih ⊢; refine ⟨fun i t ht => ?_, ?_⟩
   . cases i with
     | zero =>
      simp only [zLb, Option.some.injEq] at ht; subst ht; dsimp only; rw [hz0, zfZ, lnN_zero, Nat.zero_add]; exact ⟨hl.1, by omega, hl.2, rfl, by omega, hcol, hrl.1, hrl.2.1, hrl.2.2⟩
     | succ i =>
      simp only [zLc] at ht; obtain ⟨k1, k2, k3, k4, k5, k6, k7⟩ := ih.tok i t ht; rw [zh4, lnN_cons]; dsimp only; rw [hz0] at hLn ⊢; rw [hz] at k3; refine ⟨k1, by omega, by omega, ?_, ?_, k6, k7⟩
      . refine Eq.trans ?_ k4
        rw [ByteArray.extract_extract]; congr 1 <;> omega
      have h0 : zgZ (s.extract 0 len) 0 = 0 := rfl
      rw [h0] at hLn; omega
   rw [List.length_cons, zh4, ih.all]
   dsimp only; omega
end
end Go.Proofs.YtghpmhllpaheiaaGreatDoor
