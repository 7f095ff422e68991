/-
  Part of the proof: Is1, Nx1, Al1. No condition beyond those in the statements.
-/
import Derived.LaidEql
import Derived.Stop.Asserts
import Derived.Lib.IfaceEq
import Derived.ScopeJumps
import Derived.WalkMore
import Derived.Test.YtghpmhllpaheiaaGreatDoorL22
set_option linter.unusedVariables false
set_option linter.unusedSimpArgs false
set_option maxRecDepth 100000
set_option maxHeartbeats 4000000
namespace Go.Proofs.YtghpmhllpaheiaaGreatDoor
section
open Go.RowKit Go.Lib Go.Extern.Stop Go.Stop Go.Extern
theorem zik (v : Value) (w : World) : (Extern.ReflectliteType.typeOf #[.iface 51 v]).run Tryz.prog w = .ok (.iface 180 (.agg #[.pointer (some ⟨4, 51, none⟩)])) w := by kernel_rfl
abbrev cmpE : Array Value -> Sem Value := Extern.ReflectliteType.method fun t => do Go.Extern.Rtype.noPackHeld "Comparable" t; pure (.bool (<- typeInfo t).comparable)
theorem ziz (w : World) : (cmpE #[.agg #[.pointer (some ⟨4, 51, none⟩)]]).run Tryz.prog w = .ok (.bool true) w := by kernel_rfl
theorem ze0 (v : Value) (w : World) : (Go.method 447 180 v "Comparable").run Tryz.prog w = .ok (207, v) w := by kernel_rfl
theorem noIsE (v : Value) (xT : TypeId) (w : World) : (Instr.typeAssert (.iface 51 v) xT 215 true).run Tryz.prog w = .ok (.tuple #[.nilIface, .bool false]) w := run_typeAssert_lacksB Tryz.underlying215 (by kernel_rfl) (by kernel_rfl) v xT w
theorem ziW (v : Value) (xT : TypeId) (w : World) : (Instr.typeAssert (.iface 51 v) xT 187 true).run Tryz.prog w = .ok (.tuple #[.nilIface, .bool false]) w := run_typeAssert_lacksB Tryz.underlying187 (by kernel_rfl) (by kernel_rfl) v xT w
theorem zhf (v : Value) (xT : TypeId) (w : World) : (Instr.typeAssert (.iface 51 v) xT 189 true).run Tryz.prog w = .ok (.tuple #[.nilIface, .bool false]) w := run_typeAssert_lacksB Tryz.underlying189 (by kernel_rfl) (by kernel_rfl) v xT w
theorem is_nil (b : Nat) (w : World) : Calls Tryz.prog 37 #[.nilIface, .iface 51 (.int .i64 b)] w fun e w' => e = .returned (.bool false) /\ w' = w := by
 have hn := run_eql_iface_nil_left (P := Tryz.prog) w 51 (.int .i64 b) Tryz.underlying34; go_enter Tryz.func37, Tryz.ntmps37; go_wp2; go_ret; exact ⟨rfl, rfl⟩
theorem is_num (a b : Nat) (w : World) : Calls Tryz.prog 37 #[.iface 51 (.int .i64 a), .iface 51 (.int .i64 b)] w fun e w' => e = .returned (.bool (decide (a = b))) /\ w' = w := by
 have h8 := @run_callFunc_extern Tryz.prog 67 _ Extern.ReflectliteType.typeOf Tryz.func67 (by kernel_rfl) (by kernel_rfl) (by kernel_rfl) (by kernel_rfl); have h32 := @run_callFunc_extern Tryz.prog 207 _ cmpE Tryz.func207 (by kernel_rfl) (by kernel_rfl) (by kernel_rfl) (by kernel_rfl); have tT := zik; have cT := ziz; have mR := ze0; have nE := noIsE; have uE := ziW; have vE := zhf; have heq : (binOp .eql 34 (.iface 51 (.int .i64 a)) (.iface 51 (.int .i64 b))).run Tryz.prog w = .ok (.bool (decide (a = b))) w := by
  have h := run_eql_iface_int (P := Tryz.prog) w (k := .i64) (a : Int) (b : Int) Tryz.underlying34 (tx := 51) (by kernel_rfl) Tryz.underlying51; rw [h]; congr 2; rw [Bool.eq_iff_iff]; simp; omega
 go_enter Tryz.func37, Tryz.ntmps37; cases hd : decide (a = b) with
 | true =>
  rw [hd] at heq; have HD := hid hd; clear hd; go_wp2; refine wp_loop_rounds 1 ?_; rw [rounds_succ]; go_wp2; go_ret; exact ⟨rfl, rfl⟩
 | false =>
  rw [hd] at heq; have HD := hid hd; clear hd; go_wp2; refine wp_loop_rounds 1 ?_; rw [rounds_succ]; go_wp2; go_ret; exact ⟨rfl, rfl⟩
end
section
open Go.RowKit Go.Lib
def zcs (T : Tab) (C : Nat) : Nat -> ByteArray -> Nat -> Src -> Run -> Nx × ByteArray × Nat × Src
 | 0, buf, why, S, _ => (.err 0, buf, why, S)
 | n + 1, buf, why, S, x =>
  if C <= zbi T buf (runT T buf (buf.size + 1) x) then (.err 10, buf, why, S)
  else if (zbi T buf (runT T buf (buf.size + 1) x) = buf.size /\ why = 0) \/ ((runT T buf (buf.size + 1) x).rule < 0 /\ why = 0 /\ zb1 buf 0 = false) then
   zcs T C n (zbg C buf S).1 (zbg C buf S).2.1 (zbg C buf S).2.2 (runT T buf (buf.size + 1) x)
  else if (zbi T buf (runT T buf (buf.size + 1) x) = buf.size /\ why ≠ 13) \/ ((runT T buf (buf.size + 1) x).rule < 0 /\ why ≠ 13 /\ zb1 buf 0 = false) \/ buf.size = 0 then (.err why, buf, why, S)
  else (.tok (runT T buf (buf.size + 1) x).rule (if (runT T buf (buf.size + 1) x).rule < 0 then (Utf8.decode buf 0).2 else (runT T buf (buf.size + 1) x).long), buf, why, S)
theorem zeo {P : Program} {Q : Exit -> Act -> World -> Prop} {a : Act} {w : World} {c rest : Code} (l : Nat) (J : Nat -> Act -> World -> Prop) (hf : findLabel c l = some (Code.seq Code.skip rest))
 (pass : ∀ n a w, J n a w -> rest.wp P (Exit.jump l (fun a' w' => ∃ m, m < n /\ J m a' w') Q) a w)
 (first : (∀ n a w, J n a w -> rest.wp P (Exit.jump l (fun a' w' => ∃ m, J m a' w') Q) a w) -> c.wp P (Exit.jump l (fun a' w' => ∃ m, J m a' w') Q) a w) : (Code.scope c).wp P Q a w := by
 have ex : ∀ (p : Nat -> Prop), (∃ n, p n) -> ∃ n, p n /\ ∀ m, p m -> n <= m := by
  intro p ⟨n, hn⟩
  induction n using Nat.strongRecOn with
  | _ n ih =>
   by_cases h : ∃ m, m < n /\ p m
   . obtain ⟨m, hm, hp⟩ := h
     exact ih m hm hp
   refine ⟨n, hn, fun m hm => ?_⟩
   rcases Nat.lt_or_ge m n with hlt | hge
   . exact absurd ⟨m, hlt, hm⟩ h
   exact hge
 have mono : ∀ (J1 J2 : Act -> World -> Prop), (∀ a w, J1 a w -> J2 a w) -> ∀ (e : Exit) (a : Act) (w : World), Exit.jump l J1 Q e a w -> Exit.jump l J2 Q e a w := by
  intro J1 J2 h e a w hj; cases e with
  | goto l' => exact ⟨hj.1, h _ _ hj.2⟩
  | _ => exact hj
 classical
 let μ : Act -> World -> Nat := fun a w => if h : ∃ n, J n a w then Classical.choose (ex _ h) else 0
 have hμ : ∀ a w, (∃ n, J n a w) -> J (μ a w) a w /\ ∀ m, J m a w -> μ a w <= m := by
  intro a w h; have e : μ a w = Classical.choose (ex _ h) := dif_pos h; rw [e]; exact Classical.choose_spec (ex _ h)
 refine wp_scope_jumps l (fun a w => ∃ n, J n a w) μ hf (first fun n a w h => Code.wp_mono (mono _ _ fun a' w' ⟨m, _, hm⟩ => ⟨m, hm⟩) (pass n a w h)) ?_; intro a w h; have h1 := hμ a w h; refine wp_seq (wp_skip (Code.wp_mono (mono _ _ fun a' w' ⟨m, hlt, hm⟩ => ?_) (pass _ a w h1.1))); have h2 := hμ a' w' ⟨m, hm⟩; exact ⟨⟨m, hm⟩, Nat.lt_of_le_of_lt (h2.2 m hm) hlt⟩
theorem Keep.below {bs sb BT : Nat} {b1 b2 : Value} {u v : World} (h : Keep bs sb b1 b2 u v) (hB : BT <= u.heap.size) (h1 : BT <= bs) (h2 : BT <= sb) (h3 : ∀ g, b1.ownBlock = some g -> BT <= g) : Below BT u v :=
 ⟨h.os, h.tape, h.output, h.size, fun b hb => h.keep b (by omega) (by omega) (by omega) (fun e => by have := h3 b e; omega)⟩
theorem zdQ.cut {w : World} {cap : Nat} {buf : ByteArray} {g off : Nat} (h : zdQ w (.slice (some ⟨g, off, none⟩) buf.size cap) buf) (long : Nat) (hl : long <= buf.size) (pa : Addr) (hpa : pa = ⟨g, off + long, none⟩ \/ (cap = long /\ pa = ⟨g, off, none⟩)) :
 zdQ w (.slice (some pa) (buf.size - long) (cap - long)) (buf.extract long buf.size) := by
 rcases h with ⟨e, _⟩ | ⟨g', off', cap', cells, e, h2, h3, h4, h5⟩
 . cases e
 cases e
 have hsz := zbG buf long buf.size (Nat.le_refl _)
 rcases hpa with rfl | ⟨rfl, rfl⟩
 . refine .inr ⟨g, off + long, cap - long, cells, by rw [hsz], by omega, h3, by omega, fun i hi => ?_⟩
   rw [hsz] at hi; rw [zjq buf long buf.size i (Nat.le_refl _) (by omega), Nat.add_assoc]; exact h5 (long + i) (by omega)
 refine .inr ⟨g, off, cap - cap, cells, by rw [hsz], by omega, h3, by omega, fun i hi => ?_⟩
 omega
structure NxSt (T : Tab) (C B bs bt sb rb xb : Nat) (at' line col : Int) (R : Nx × ByteArray × Nat × Src) (w0 : World) (bv0 : Value) (n : Nat) (buf : ByteArray) (why : Nat) (S : Src) (bv : Value) (x : Run) (w : World) : Prop where
 st : ScSt B w bs bt sb C buf why 0 at' line col S bv
 keep : Keep bs sb bv0 bv w0 w
 run : zbe w xb x
 res : w.heap[rb]? = some (.cells #[.int .i64 0, .int .i64 0, .int .i64 0, .int .i64 0, .string ⟨#[]⟩] 28 (0, 0))
 own : bv.ownBlock ≠ some xb /\ bv.ownBlock ≠ some rb
 alive : x.alive <= buf.size
 set : x.set < T.goes.length
 long : x.long <= x.alive
 size : buf.size <= C
 fuel : (C - buf.size) + (if why = 0 then 1 else 0) < n
 rest : zcs T C n buf why S x = R
def NextO (C B bs bt sb : Nat) (at' line col : Int) (R : Nx × ByteArray × Nat × Src) (bv : Value) (w : World) (e : Ending) (w' : World) : Prop :=
 match R with
 | (.err k, buf, why, S) => e = .returned (.tuple #[.agg #[.int .i64 0, .int .i64 0, .int .i64 0, .int .i64 0, .string ⟨#[]⟩], errV k]) /\ ∃ bv', ScSt B w' bs bt sb C buf why k at' line col S bv' /\ Keep bs sb bv bv' w w'
 | (.tok rule len, buf, why, S) => e = .returned (.tuple #[.agg #[.int .i64 rule, .int .i64 at', .int .i64 line, .int .i64 col, .string (buf.extract 0 len)], .nilIface]) /\
  ∃ bv', ScSt B w' bs bt sb C (buf.extract len buf.size) why 0 (at' + len) (zaX (buf.extract 0 len) (len + 1) 0 line col).1 (zaX (buf.extract 0 len) (len + 1) 0 line col).2 S bv' /\ Keep bs sb bv bv' w w'
theorem zlh {T : Tab} {s : ByteArray} {x : Run} (h : x.long <= x.alive) : (zcT T s x).long <= (zcT T s x).alive := by
 unfold zcT; split
 . exact Nat.le_refl _
 exact Nat.le_trans h (Nat.le_add_right _ _)
theorem zjl {T : Tab} {s : ByteArray} : ∀ (f : Nat) (x : Run), x.long <= x.alive -> (runT T s f x).long <= (runT T s f x).alive
 | 0, x, h => h
 | f + 1, x, h => by
  rw [runT]; split
  . exact zjl f _ (zlh h)
  exact h
theorem nextT_set {T : Tab} {R : Nat} (hT : WfT T R) {set : Nat} {c : Int} (h : 0 <= zbQ T set c) : (zbQ T set c).toNat < T.goes.length := by
 have hm := zhZ h; have hk : zbQ T set c ∈ T.goes.getD set [] := by
  unfold zbQ at h ⊢; generalize T.goes.getD set [] = row at h hm ⊢; rw [zLf, zLe hm.2]; exact List.getElem_mem _
 have := hT.cells _ hm.1 _ hk; omega
theorem zkr {T : Tab} {R : Nat} (hT : WfT T R) {s : ByteArray} : ∀ (f : Nat) (x : Run), x.set < T.goes.length -> (runT T s f x).set < T.goes.length
 | 0, x, h => h
 | f + 1, x, h => by
  rw [runT]; split
  . rename_i hg
    refine zkr hT f _ ?_; simp only [zaT, Bool.and_eq_true, decide_eq_true_eq] at hg; unfold zcT; split <;> exact nextT_set hT hg.2.2.2
  exact h
theorem ScSt.grown {B : Nat} {w w' : World} {bs bt sb C : Nat} {buf : ByteArray} {why err : Nat} {at' line col : Int} {S : Src} {bv : Value} (h : ScSt B w bs bt sb C buf why err at' line col S bv) {xb : Nat} (hg : w.grownBy w' (some xb)) (hB : B <= xb) (hb : xb ≠ bs) (hv : bv.ownBlock ≠ some xb) : ScSt B w' bs bt sb C buf why err at' line col S bv := by
 have hk : ∀ b, b < w.heap.size -> b ≠ xb -> w'.heap[b]? = w.heap[b]? := fun b hb' hn => hg.block b hb' (fun e => hn (by cases e; rfl)); exact ⟨(hk bs h.lt.2.2.1 (Ne.symm hb)).trans h.sc, h.buf.kept (fun g hg' => hk g (h.buf.lt g hg') (fun e => hv (by rw [hg', e]))), h.src.below (fun b hb' => hk b (zLd hb' h.lt.2.1) (by omega)), h.ok, h.bB, h.own⟩
theorem Keep.grown {bs sb xb : Nat} {b1 b2 : Value} {u v w : World} (h : Keep bs sb b1 b2 u v) (hg : v.grownBy w (some xb)) (hx : u.heap.size <= xb) : Keep bs sb b1 b2 u w :=
 ⟨hg.os.trans h.os, hg.tape.trans h.tape, hg.output.trans h.output, Nat.le_trans h.size hg.size, fun b hb h1 h2 h3 => (hg.block b (zLd hb h.size) (fun e => by cases e; omega)).trans (h.keep b hb h1 h2 h3), h.new⟩
theorem full_buf (s : ByteArray) (hs : s.size < 1000000) (ao : Option Addr) (cap : Nat) (w : World) (hT : Tabs w) (h : zjk w (.slice ao s.size cap) s) :
 Calls Tryz.prog 38 #[.slice ao s.size cap] w fun e w' => e = .returned (.bool (zb1 s 0)) /\ Below w.heap.size w w' := by
 rcases h with ⟨e, h0⟩ | ⟨g, off, cap', e, h1, h2, h3⟩
 . have hf : zb1 s 0 = false := by
    unfold zb1 zbs; rw [h0]; simp
   rw [hf, h0]; exact zhs ao cap w
 cases e
 rcases Nat.eq_zero_or_pos s.size with h0 | h0
 . have hf : zb1 s 0 = false := by
    unfold zb1 zbs; rw [h0]; simp
   rw [hf, h0]; exact zhs _ cap w
 have hd := hd_of (p := 0) h3 h0 h2
 have hh := ziu g off s.size cap _ _ _ w hT (by simpa using hd) h0 hs; unfold zb1; simpa using hh
theorem zaF {B : Nat} {a b c : World} (h : Below B a b) (k : Below b.heap.size b c) (hB : B <= b.heap.size) : Below B a c :=
 ⟨k.os.trans h.os, k.tape.trans h.tape, k.output.trans h.output, Nat.le_trans h.size k.size, fun x hx => (k.block x (by omega)).trans (h.block x hx)⟩
theorem zc9 : errV 0 = .nilIface := rfl
theorem zaS {k : Nat} (h : k ≠ 0) : errV k = .iface 51 (.int .i64 k) := by unfold errV; rw [if_neg h]
theorem zgO (room : Nat) : ∀ (k : Nat) (buf : ByteArray) (S : Src), buf.size <= (zdv room k buf S).1.size /\ (zdv room k buf S).1.size <= buf.size + room /\ ((zdv room k buf S).2.1 = 0 -> buf.size < (zdv room k buf S).1.size)
 | 0, buf, S => ⟨Nat.le_refl _, Nat.le_add_right _ _, fun h => by cases h⟩
 | k + 1, buf, S => by
  have hs := zfw room S; rw [zdv]; by_cases h : (zaY room S).2.1 ≠ 0 \/ 0 < (zaY room S).1
  . rw [if_pos h]
    have hz := zbk (zaY room S).2.2.1 (zaY room S).1 hs.2; refine ⟨?_, ?_, fun h0 => ?_⟩
    . show buf.size <= (buf ++ _).size
      rw [zb5]; omega
    . show (buf ++ _).size <= _
      rw [zb5]; omega
    show buf.size < (buf ++ _).size
    rw [zb5]; have h0' : (zaY room S).2.1 = 0 := h0; have : 0 < (zaY room S).1 := by rcases h with h | h; exact absurd h0' h; exact h
    omega
  rw [if_neg h]
  exact zgO room k buf _
theorem zeM (C : Nat) (buf : ByteArray) (S : Src) (h : buf.size <= C) : buf.size <= (zbg C buf S).1.size /\ (zbg C buf S).1.size <= C /\ ((zbg C buf S).2.1 = 0 -> buf.size < (zbg C buf S).1.size) := by
 have hf := zgO (zir C buf.size) 8 buf S; unfold zbg; have hr : zir C buf.size <= C - buf.size := by unfold zir; omega
 exact ⟨hf.1, by omega, hf.2.2⟩
theorem NxSt.more {T : Tab} {C B bs bt sb rb xb : Nat} {at' line col : Int} {R : Nx × ByteArray × Nat × Src} {w0 : World} {bv0 : Value} {n : Nat} {buf : ByteArray} {S : Src} {bv : Value} {y : Run} {w w' : World} {bv' : Value}
 (hk0 : Keep bs sb bv0 bv w0 w) (hrun : zbe w xb y) (hres : w.heap[rb]? = some (.cells #[.int .i64 0, .int .i64 0, .int .i64 0, .int .i64 0, .string ⟨#[]⟩] 28 (0, 0))) (hown : bv.ownBlock ≠ some xb /\ bv.ownBlock ≠ some rb) (hal : y.alive <= buf.size) (hset : y.set < T.goes.length) (hlong : y.long <= y.alive) (hC : buf.size <= C)
 (hfuel : (C - buf.size) + 1 < n + 1) (hrest : zcs T C n (zbg C buf S).1 (zbg C buf S).2.1 (zbg C buf S).2.2 y = R) (hst : ScSt B w' bs bt sb C (zbg C buf S).1 (zbg C buf S).2.1 0 at' line col (zbg C buf S).2.2 bv') (hk : Keep bs sb bv bv' w w') (hx : xb ≠ bs /\ xb ≠ sb /\ rb ≠ bs /\ rb ≠ sb) :
 NxSt T C B bs bt sb rb xb at' line col R w0 bv0 n (zbg C buf S).1 (zbg C buf S).2.1 (zbg C buf S).2.2 bv' y w' := by
 have hf := zeM C buf S hC; have lx := zaa hrun; have lr := zaa hres; refine ⟨hst, hk0.trans hk, (hk.keep xb lx hx.1 hx.2.1 hown.1).trans hrun, (hk.keep rb lr hx.2.2.1 hx.2.2.2 hown.2).trans hres, ⟨fun e => ?_, fun e => ?_⟩, by omega, hset, hlong, hf.2.1, ?_, hrest⟩
 . rcases hk.new xb e with e' | e'
   . exact hown.1 e'
   omega
 . rcases hk.new rb e with e' | e'
   . exact hown.2 e'
   omega
 by_cases h0 : (zbg C buf S).2.1 = 0
 . have := hf.2.2 h0
   rw [if_pos h0]; omega
 rw [if_neg h0]; omega
theorem ScSt.tok {B : Nat} {w w' : World} {bs bt sb C : Nat} {buf : ByteArray} {why : Nat} {at' line col at2 l2 c2 : Int} {S : Src} {g off cap len : Nat} {pa : Addr} (h : ScSt B w bs bt sb C buf why 0 at' line col S (.slice (some ⟨g, off, none⟩) buf.size cap))
 (hsc : ScAt w' bs bt (.iface 44 (zaj sb)) C (.slice (some pa) (buf.size - len) (cap - len)) (errV why) (errV 0) at2 l2 c2) (hg : w.grownBy w' (some bs)) (hl : len <= buf.size) (hpa : pa = ⟨g, off + len, none⟩ \/ (cap = len /\ pa = ⟨g, off, none⟩)) :
 ScSt B w' bs bt sb C (buf.extract len buf.size) why 0 at2 l2 c2 S (.slice (some pa) (buf.size - len) (cap - len)) /\ Keep bs sb (.slice (some ⟨g, off, none⟩) buf.size cap) (.slice (some pa) (buf.size - len) (cap - len)) w w' := by
 have hk : ∀ b, b < w.heap.size -> b ≠ bs -> w'.heap[b]? = w.heap[b]? := fun b hb hn => hg.block b hb (fun e => hn (by cases e; rfl)); have ho := h.own g rfl; have hpb : pa.block = g := by rcases hpa with rfl | ⟨_, rfl⟩ <;> rfl
 have hown : ∀ x, (Value.slice (some pa) (buf.size - len) (cap - len)).ownBlock = some x -> x = g := fun x hx => by
  have e : some pa.block = some x := hx; cases e; exact hpb
 refine ⟨⟨hsc, (h.buf.cut len hl pa hpa).kept (fun x hx => ?_), h.src.below (fun b hb => hk b (zLd hb h.lt.2.1) (by have := h.bB; omega)), h.ok, h.bB, fun x hx => by rw [hown x hx]; exact ho⟩, ⟨hg.os, hg.tape, hg.output, hg.size, fun b hb h1 _ _ => hk b hb h1, fun x hx => .inl (by rw [hown x hx]; rfl)⟩⟩; rw [hown x hx]; exact hk g (h.buf.lt g rfl) ho.2
end
section
open Go.RowKit Go.Lib
structure Sc where
 buf : ByteArray
 why : Nat
 err : Nat
 pos : Int
 line : Int
 col : Int
 src : Src
structure Tk where
 rule : Int
 pos : Int
 line : Int
 col : Int
 text : ByteArray
def tk0 : Tk := ⟨0, 0, 0, 0, ⟨#[]⟩⟩
def zdO (T : Tab) (C : Nat) (x : Sc) : Tk × Nat × Sc :=
 if x.err ≠ 0 then (tk0, x.err, x) else
 match zcs T C (C + 2) x.buf x.why x.src run0 with
 | (.err k, buf, why, S) => (tk0, k, ⟨buf, why, k, x.pos, x.line, x.col, S⟩)
 | (.tok rule len, buf, why, S) => (⟨rule, x.pos, x.line, x.col, buf.extract 0 len⟩, 0, ⟨buf.extract len buf.size, why, 0, x.pos + len, (zaX (buf.extract 0 len) (len + 1) 0 x.line x.col).1, (zaX (buf.extract 0 len) (len + 1) 0 x.line x.col).2, S⟩)
def allL (T : Tab) (C : Nat) : Nat -> Sc -> List Tk -> List Tk × Nat × Sc
 | 0, x, l => (l, 0, x)
 | n + 1, x, l => if (zdO T C x).2.1 ≠ 0 then (l, (zdO T C x).2.1, (zdO T C x).2.2) else allL T C n (zdO T C x).2.2 (l ++ [(zdO T C x).1])
def zfm : List Pc -> Nat -> Nat
 | [], _ => 0
 | p :: r, pos => (p.text.size - pos) + zfm r 0
def zdN (S : Src) : Nat := zfm S.l S.pos
theorem zhi (room : Nat) : ∀ (l : List Pc) (pos : Nat) (em : Int), (zbj room l pos em).2.1.size + zdN (zbj room l pos em).2.2 <= zfm l pos
 | [], pos, em => by show (0 : Nat) + 0 <= 0; decide
 | p :: r, pos, em => by
  rw [zbj]; by_cases c1 : pos < p.text.size
  . rw [if_pos c1]
    show (p.text.extract pos _).size + zfm (p :: r) _ <= _; rw [zbG _ _ _ (by omega)]; simp only [zfm]; omega
  rw [if_neg c1]
  split
  . show (0 : Nat) + zfm (p :: r) pos <= _; omega
  split
  . show (0 : Nat) + zfm (p :: r) pos <= _; omega
  split
  . show (0 : Nat) + zfm (p :: r) pos <= _; omega
  split
  . show (0 : Nat) + zfm (p :: r) pos <= _; omega
  split
  . show (0 : Nat) + zfm (p :: r) pos <= _; omega
  have := zhi room r 0 0
  simp only [zfm]; omega
theorem zk3 (room : Nat) (S : Src) : (zaY room S).2.2.1.size + zdN (zaY room S).2.2.2 <= zdN S := by
 have h := zhi room S.l S.pos S.empty; unfold zaY; rw [show zbj room S.l S.pos S.empty = zeR room S from rfl] at h
 rcases hX : zeR room S with ⟨X1, X2, X3⟩
 rw [hX] at h; dsimp only at h; unfold zdN at h ⊢; cases X1 with
 | ret n e =>
  dsimp only; split
  . show (0 : Nat) + zfm X3.l X3.pos <= _; omega
  . exact h
 | pan => show (0 : Nat) + zfm X3.l X3.pos <= _; omega
theorem zhr (room : Nat) : ∀ (k : Nat) (buf : ByteArray) (S : Src), (zdv room k buf S).1.size + zdN (zdv room k buf S).2.2 <= buf.size + zdN S
 | 0, buf, S => Nat.le_refl _
 | k + 1, buf, S => by
  have hl := zk3 room S; have hs := zfw room S; rw [zdv]; split
  . show (buf ++ _).size + zdN (zaY room S).2.2.2 <= _
    rw [zb5, zbG _ _ _ hs.2]; omega
  have := zhr room k buf (zaY room S).2.2.2
  omega
theorem zkX (C : Nat) (buf : ByteArray) (S : Src) : (zbg C buf S).1.size + zdN (zbg C buf S).2.2 <= buf.size + zdN S := zhr _ 8 buf S
def zic (x : Run) : Prop := x.long <= x.alive /\ (0 <= x.rule -> 1 <= x.long)
theorem zfq {T : Tab} {s : ByteArray} : ∀ (f : Nat) (x : Run), zic x -> zic (runT T s f x)
 | 0, x, h => h
 | f + 1, x, h => by
  rw [runT]; split
  . rename_i hg
    have hg' := zci hg; refine zfq f _ ?_; unfold zcT; split
    . exact ⟨Nat.le_refl _, fun _ => by show 1 <= x.alive + _; omega⟩
    exact ⟨Nat.le_trans h.1 (Nat.le_add_right _ _), h.2⟩
  exact h
theorem zez {T : Tab} {C : Nat} : ∀ (n : Nat) (buf : ByteArray) (why : Nat) (S : Src) (x : Run), x.alive <= buf.size -> zic x -> buf.size <= C ->
 (zcs T C n buf why S x).2.1.size + zdN (zcs T C n buf why S x).2.2.2 <= buf.size + zdN S /\ (zcs T C n buf why S x).2.1.size <= C /\ ∀ r len, (zcs T C n buf why S x).1 = .tok r len -> 1 <= len /\ len <= (zcs T C n buf why S x).2.1.size
 | 0, buf, why, S, x, hx, hl, hC => ⟨Nat.le_refl _, hC, fun r len h => by cases h⟩
 | n + 1, buf, why, S, x, hx, hl, hC => by
  have hr := zdC (T := T) (s := buf) (buf.size + 1) x hx; have hL := zfq (T := T) (s := buf) (buf.size + 1) x hl; have hm := zkX C buf S; have hf := zeM C buf S hC; rw [zcs]; generalize runT T buf (buf.size + 1) x = y at hr hL ⊢; split
  . exact ⟨Nat.le_refl _, hC, fun r len h => by cases h⟩
  split
  . have ih := zez (T := T) (C := C) n (zbg C buf S).1 (zbg C buf S).2.1 (zbg C buf S).2.2 y (by omega) hL hf.2.1
    exact ⟨by omega, ih.2⟩
  split
  . exact ⟨Nat.le_refl _, hC, fun r len h => by cases h⟩
  rename_i h3
  refine ⟨Nat.le_refl _, hC, fun r len h => ?_⟩; have hz : 0 < buf.size := by
   rcases Nat.eq_zero_or_pos buf.size with h0 | h0
   . exact absurd (.inr (.inr h0)) h3
   exact h0
  have hd := zbO buf 0 hz; simp only [Nx.tok.injEq] at h; obtain ⟨rfl, rfl⟩ := h; have h1 := hL.1; have h2 := hL.2; show 1 <= (if y.rule < 0 then _ else _) /\ (if y.rule < 0 then _ else _) <= buf.size; split <;> omega
theorem zdb (s : ByteArray) : ∀ (f p : Nat) (line col : Int), 1 <= line -> 1 <= col ->
 1 <= (zaX s f p line col).1 /\ (zaX s f p line col).1 <= line + ((s.size - p : Nat) : Int) /\ 1 <= (zaX s f p line col).2 /\ (zaX s f p line col).2 <= col + ((s.size - p : Nat) : Int)
 | 0, p, line, col, h1, h2 => by simp only [zaX]; omega
 | f + 1, p, line, col, h1, h2 => by
  by_cases h : p < s.size
  . have hd := zbO s p h
    rw [zeJ s f p line col h]; split
    . have := zdb s f (p + (Utf8.decode s p).2) (line + 1) 1 (by omega) (by omega)
      omega
    have := zdb s f (p + (Utf8.decode s p).2) line (col + 1) h1 (by omega)
    omega
  rw [zfz s _ p line col (by omega)]
  simp only; omega
structure ScWf (M C : Nat) (x : Sc) : Prop where
 size : x.buf.size <= C
 pos : 0 <= x.pos
 line : 1 <= x.line /\ x.line <= x.pos + 1
 col : 1 <= x.col /\ x.col <= x.pos + 1
 left : x.pos + ((x.buf.size + zdN x.src : Nat) : Int) <= M
theorem zgb : zic run0 := ⟨Nat.le_refl _, fun h => by simp [run0] at h⟩
theorem ziv {M C : Nat} {T : Tab} {x : Sc} (h : ScWf M C x) : ScWf M C (zdO T C x).2.2 := by
 unfold zdO; split
 . exact h
 have hf := zez (T := T) (C := C) (C + 2) x.buf x.why x.src run0 (Nat.zero_le _) zgb h.size
 have hl := h.line; have hc := h.col; have hm := h.left; have hp := h.pos
 rcases hR : zcs T C (C + 2) x.buf x.why x.src run0 with ⟨r, buf, why, S⟩
 rw [hR] at hf; dsimp only at hf; cases r with
 | err k => exact ⟨hf.2.1, h.pos, h.line, h.col, by show x.pos + ((buf.size + zdN S : Nat) : Int) <= M; omega⟩
 | tok rule len =>
  obtain ⟨k1, k2⟩ := hf.2.2 rule len rfl; have hz : (buf.extract 0 len).size = len := by rw [zbG _ _ _ k2]; omega
  have hz2 : (buf.extract len buf.size).size = buf.size - len := zbG _ _ _ (Nat.le_refl _); have hb := zdb (buf.extract 0 len) (len + 1) 0 x.line x.col hl.1 hc.1; rw [hz] at hb; refine ⟨by show (buf.extract len buf.size).size <= C; omega, by show 0 <= x.pos + (len : Int); omega, ⟨hb.1, ?_⟩, ⟨hb.2.2.1, ?_⟩, ?_⟩
  . dsimp only; omega
  . dsimp only; omega
  show x.pos + (len : Int) + (((buf.extract len buf.size).size + zdN S : Nat) : Int) <= M
  omega
end
end Go.Proofs.YtghpmhllpaheiaaGreatDoor
