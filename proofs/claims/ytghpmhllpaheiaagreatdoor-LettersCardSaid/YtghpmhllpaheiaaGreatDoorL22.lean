/-
  Part of the proof: Rd1, Rd2, On1, On2, Mo1, Mo2, Pl1, Pl3. No condition beyond those in the statements.
-/
import Derived.Lib.LazyBuf
import Derived.Deep.RegionHeld3
import Derived.Recover
import Derived.Test.YtghpmhllpaheiaaGreatDoorL21
import Derived.Test.YtghpmhllpaheiaaGreatDoorL08
import Derived.Test.YtghpmhllpaheiaaGreatDoorL17
set_option linter.unusedVariables false
set_option linter.unusedSimpArgs false
set_option maxRecDepth 100000
set_option maxHeartbeats 40000000
namespace Go.Proofs.YtghpmhllpaheiaaGreatDoor
section
open Go.RowKit Go.Lib
structure Pc where
 text : ByteArray
 n : Int
 kind : Int
structure Src where
 l : List Pc
 pos : Nat
 empty : Int
inductive Rd where
 | ret (n : Int) (e : Nat)
 | pan
def zbj (room : Nat) : List Pc -> Nat -> Int -> Rd × ByteArray × Src
 | [], pos, em => (.ret 0 13, ⟨#[]⟩, ⟨[], pos, em⟩)
 | p :: r, pos, em =>
  if pos < p.text.size then
   (.ret (min room (p.text.size - pos) : Nat) (if p.kind = 5 /\ pos + min room (p.text.size - pos) = p.text.size then 14 else 0), p.text.extract pos (pos + min room (p.text.size - pos)), ⟨p :: r, pos + min room (p.text.size - pos), em⟩)
  else if em < p.n then (.ret 0 0, ⟨#[]⟩, ⟨p :: r, pos, em + 1⟩)
  else if p.kind = 1 \/ p.kind = 5 then (.ret 0 14, ⟨#[]⟩, ⟨p :: r, pos, em⟩)
  else if p.kind = 2 then (.ret (-1) 0, ⟨#[]⟩, ⟨p :: r, pos, em⟩)
  else if p.kind = 3 then (.ret ((room : Int) + 1) 0, ⟨#[]⟩, ⟨p :: r, pos, em⟩)
  else if p.kind = 4 then (.pan, ⟨#[]⟩, ⟨p :: r, pos, em⟩)
  else zbj room r 0 0
def zeR (room : Nat) (S : Src) : Rd × ByteArray × Src := zbj room S.l S.pos S.empty
structure zfx (S : Src) : Prop where
 text : ∀ p ∈ S.l, p.text.size < 1000000
 n : ∀ p ∈ S.l, -1000000000 < p.n /\ p.n < 1000000000
 kind : ∀ p ∈ S.l, -1000000000 < p.kind /\ p.kind < 1000000000
 len : S.l.length < 1000000
 pos : S.pos < 1000000
 empty : 0 <= S.empty /\ S.empty < 1000000000
def errV (e : Nat) : Value := if e = 0 then .nilIface else .iface 51 (.int .i64 e)
def PcAt (w : World) (pb off : Nat) (p : Pc) : Prop := w.cell? ⟨pb, off, none⟩ = some (.string p.text) /\ w.cell? ⟨pb, off + 1, none⟩ = some (.int .i64 p.n) /\ w.cell? ⟨pb, off + 2, none⟩ = some (.int .i64 p.kind)
def zd5 (B : Nat) (w : World) (sb : Nat) (S : Src) : Prop := ∃ ao cap reads pb off, w.heap[sb]? = some (.cells #[.slice ao S.l.length cap, .int .i64 S.pos, .int .i64 S.empty, .int .i64 reads] 78 (0, 0)) /\ S.l.length <= cap /\ sb < B /\
 (S.l ≠ [] -> ao = some ⟨pb, off, none⟩ /\ pb ≠ sb /\ pb < B) /\ ∀ (i : Nat) (p : Pc), S.l[i]? = some p -> PcAt w pb (off + i * 3) p
theorem zd5.below {B : Nat} {w w' : World} {sb : Nat} {S : Src} (h : zd5 B w sb S) (hx : ∀ b, b < B -> w'.heap[b]? = w.heap[b]?) : zd5 B w' sb S := by
 obtain ⟨ao, cap, reads, pb, off, h1, h2, h0, h3, h4⟩ := h; refine ⟨ao, cap, reads, pb, off, (hx sb h0).trans h1, h2, h0, h3, fun i p hp => ?_⟩; have hne : S.l ≠ [] := fun e => by rw [e] at hp; simp at hp
 obtain ⟨rfl, b, c⟩ := h3 hne; obtain ⟨q1, q2, q3⟩ := h4 i p hp; have hc : ∀ o, w'.cell? ⟨pb, o, none⟩ = w.cell? ⟨pb, o, none⟩ := fun o => by unfold World.cell?; rw [hx pb c]
 exact ⟨(hc _).trans q1, (hc _).trans q2, (hc _).trans q3⟩
theorem zjq (s : ByteArray) (a b i : Nat) (hb : b <= s.size) (hi : a + i < b) : byt (s.extract a b) i = byt s (a + i) := by
 unfold byt; congr 1; simp only [ByteArray.get!]; rw [getElem!_def, getElem!_def]; have e : (s.extract a b).data[i]? = s.data[a + i]? := by
  rw [ByteArray.data_extract, Array.getElem?_extract]; have hz : s.data.size = s.size := rfl; rw [if_pos (by omega)]
 rw [e]
theorem zbG (s : ByteArray) (a b : Nat) (hb : b <= s.size) : (s.extract a b).size = b - a := by simp; omega
theorem ziG (w : World) (ty : TypeId) (b dLen dCap : Nat) (t : ByteArray) (hc : ∀ j, j < dLen -> (w.cell? ⟨b, j, none⟩).isSome = true) (hf : ∀ j, w.frozen? ⟨b, j, none⟩ = false) :
 (Builtin.copy_ #[55, 9] ty #[.slice (some ⟨b, 0, none⟩) dLen dCap, .string t]).run Tryz.prog w = .ok (.int .i64 (min dLen t.size : Nat)) (w.setCells b 0 ((zbd t).take (min dLen t.size))) := by
 have hz : ∀ w, (Go.sizeOf 5).run Tryz.prog w = .ok 1 w := fun w => by kernel_rfl
 have hl : ((zbd t).take (min dLen t.size)).length = min dLen t.size := by rw [List.length_take, za3]; omega
 have hst := run_storeCells_cells (P := Tryz.prog) b 0 ((zbd t).take (min dLen t.size)) 0 w (by rw [hl]; intro j hj; simpa using hc j (by omega)) (by intro j _; simpa using hf j) (by
  intro v hv; obtain ⟨x, _, rfl⟩ := List.mem_map.1 (List.mem_of_mem_take hv); rfl)
 have hm : Nat.min t.size dLen = min dLen t.size := Nat.min_comm _ _; simp only [Nat.add_zero] at hst; simp [Builtin.copy_, run_underlying Tryz.underlying55, Builtin.lenOf, Builtin.firstCells, hz]; rw [hm, show List.map (fun b : UInt8 => Value.int IntKind.u8 (b.toNat : Int)) t.data.toList = zbd t from rfl, hst]; rfl
theorem zhU {P : Program} {ops : Array Oper} {o : Oper} {a : Act} {w : World} {K : Act -> World -> Prop} {Q : Exit -> Act -> World -> Prop} {E : Prop}
 (hg : o.guard = none) (d x : Operand) (dT sT : TypeId) (hop : o.op = Op.call { callee := Callee.builtin Builtin.copy, args := #[d, x], argTypes := #[dT, sT] })
 (v1 v2 v : Value) (w' : World) (hd : a.eval d = v1) (hx : a.eval x = v2) (hrun : (Builtin.copy_ #[dT, sT] o.type #[v1, v2]).run P w = .ok v w') (hK : K (a.put o.dst v) w') :
 if Region.wanted o (yielded ops a.tmps) = true then Oper.wp P o a w K Q else E := by
 have hw : Region.wanted o (yielded ops a.tmps) = true := by simp [Region.wanted, hg]
 rw [if_pos hw]; unfold Oper.wp; simp [execOp, hop, resolve, invoke, builtin, hd, hx, hrun, Result.andThen]; exact hK
structure Chg (sb pp : Nat) (w w' : World) : Prop where
 os : w'.os = w.os
 tape : w'.tape = w.tape
 output : w'.output = w.output
 size : w.heap.size <= w'.heap.size
 keep : ∀ b, b < w.heap.size -> b ≠ sb -> b ≠ pp -> w'.heap[b]? = w.heap[b]?
theorem Chg.refl (sb pp : Nat) (w : World) : Chg sb pp w w := ⟨rfl, rfl, rfl, Nat.le_refl _, fun _ _ _ _ => rfl⟩
theorem Chg.trans {sb pp : Nat} {a b c : World} (h : Chg sb pp a b) (k : Chg sb pp b c) : Chg sb pp a c :=
 ⟨k.os.trans h.os, k.tape.trans h.tape, k.output.trans h.output, Nat.le_trans h.size k.size, fun x hx h1 h2 => (k.keep x (zLd hx h.size) h1 h2).trans (h.keep x hx h1 h2)⟩
theorem Chg.of_below {sb pp : Nat} {a b : World} (h : Below a.heap.size a b) : Chg sb pp a b := ⟨h.os, h.tape, h.output, h.size, fun x hx _ _ => h.block x hx⟩
theorem Chg.of_grown {sb pp g : Nat} {a b : World} (h : a.grownBy b (some g)) (hg : g = sb \/ g = pp) : Chg sb pp a b := ⟨h.os, h.tape, h.output, h.size, fun x hx h1 h2 => h.block x hx (fun e => by cases e; omega)⟩
theorem Chg.drewN {sb pp : Nat} {a b : World} (h : Chg sb pp a b) (n : Nat) : Chg sb pp a (b.drewN n) := ⟨h.os, h.tape, h.output, h.size, h.keep⟩
abbrev zfV : ByteArray := ⟨#[110, 111, 32, 114, 101, 97, 100, 101, 114]⟩
def rdE : Rd -> Ending
 | .ret n e => .returned (.tuple #[.int .i64 n, errV e])
 | .pan => .panicked [{ v := .iface 9 (.string zfV), recovered := false }]
def ReadO (B sb pp room : Nat) (R : Rd × ByteArray × Src) (w : World) (e : Ending) (w' : World) : Prop :=
 e = rdE R.1 /\ zd5 B w' sb R.2.2 /\ (∃ arr, w'.heap[pp]? = some (.cells arr 5 (0, 0)) /\ arr.size = room /\ ∀ i, i < R.2.1.size -> arr[i]? = some (.int .u8 (byt R.2.1 i))) /\ Chg sb pp w w'
theorem zkk (room : Nat) : ∀ (l : List Pc) (pos : Nat) (em : Int), zfx ⟨l, pos, em⟩ -> zfx (zbj room l pos em).2.2
 | [], pos, em, h => h
 | p :: r, pos, em, h => by
  have ht := h.text p (by simp); have hn := h.n p (by simp); have he := h.empty; have hp := h.pos; rw [zbj]; split
  . exact ⟨h.text, h.n, h.kind, h.len, by show pos + _ < _; omega, h.empty⟩
  split
  . exact ⟨h.text, h.n, h.kind, h.len, h.pos, by show 0 <= em + 1 /\ em + 1 < _; simp only at he; omega⟩
  split
  . exact h
  split
  . exact h
  split
  . exact h
  split
  . exact h
  exact zkk room r 0 0 ⟨fun q hq => h.text q (by simp [hq]), fun q hq => h.n q (by simp [hq]), fun q hq => h.kind q (by simp [hq]), by have := h.len; simp at this ⊢; omega, (show (0 : Nat) < 1000000 by decide), (show (0 : Int) <= 0 /\ (0 : Int) < 1000000000 by decide)⟩
end
section
open Go.RowKit Go.Lib
def ReadC (l : List Pc) : Prop := ∀ (pos : Nat) (em : Int) (B : Nat) (w : World) (sb pp room : Nat) (arr : Array Value), zd5 B w sb ⟨l, pos, em⟩ -> zfx ⟨l, pos, em⟩ -> B <= pp -> w.heap[pp]? = some (.cells arr 5 (0, 0)) -> arr.size = room -> room < 1000000 ->
 Calls Tryz.prog 198 #[zaj sb, .slice (some ⟨pp, 0, none⟩) room room] w (ReadO B sb pp room (zbj room l pos em) w)
theorem read_nil : ReadC [] := by
 intro pos em B w sb pp room arr hS hok hB hpp hsz hroom; obtain ⟨ao, cap, reads, pb, off, h1, h2, h0, h3, h4⟩ := hS; have c0 := zab _ _ 0 _ _ _ h1; have c3 := zab _ _ 3 _ _ _ h1; simp only [zLa, zLb, zLc, List.length_nil] at c0 c3; have f3 := zae _ _ 3 _ _ h1; have l1 := zaa h1; have H := hid (And.intro h1 (And.intro h2 (And.intro h3 h4))); have HP := hid (And.intro hpp hsz); obtain ⟨r1, hr1⟩ : ∃ r, IntKind.i64.wrap (reads + 1) = r := ⟨_, rfl⟩; clear h1 h2 h3 h4 hpp hsz hok
 go_enter Tryz.func198, Tryz.ntmps198; go_wp2_with (fail); refine bodyPost_ret (v := .tuple #[.int .i64 0, .iface 51 (.int .i64 13)]) (by simp [results, Tryz.results198, go_sem]) rfl ?_; have hne : pp ≠ sb := by omega
 refine ⟨rfl, ⟨ao, cap, r1, pb, off, zac _ _ 3 _ _ _ _ H.out.1, H.out.2.1, h0, fun h => absurd rfl h, fun i p hp => by simp [zbj] at hp⟩, ⟨arr, (zaf _ _ _ _ hne).trans HP.out.1, HP.out.2, fun i hi => absurd (show i < 0 from hi) (by omega)⟩, Chg.of_grown (zag _ sb 3 _) (.inl rfl)⟩
theorem read_cons (p : Pc) (r : List Pc) (ih : ReadC r) : ReadC (p :: r) := by
 intro pos em B w sb pp room arr hS hok hB hpp hsz hroom; obtain ⟨ao, cap, reads, pb, off, h1, h2, h0, h3, h4⟩ := hS; obtain ⟨rfl, hpb, hpbB⟩ := h3 (by simp); obtain ⟨q0, q1, q2⟩ := h4 0 p rfl; simp only [Nat.zero_mul, Nat.add_zero] at q0 q1 q2; have hlp := zaa hpp; have l1 := zaa h1; have hne : pp ≠ sb := by omega
 have hnp : pp ≠ pb := by omega
 have hokt := hok.text p (by simp); have hokn := hok.n p (by simp); have hokk := hok.kind p (by simp); have hokp := hok.pos; have hoke := hok.empty; simp only at hokp hoke; have c0 := zab _ _ 0 _ _ _ h1; have c3 := zab _ _ 3 _ _ _ h1; simp only [zLa, zLb, zLc] at c0 c3; have f3 := zae _ _ 3 _ _ h1; obtain ⟨r1, hr1⟩ : ∃ r, IntKind.i64.wrap (reads + 1) = r := ⟨_, rfl⟩; have H := hid (And.intro h1 (And.intro h2 (And.intro h3 h4))); have HP := hid (And.intro hpp hsz); have HOK := hid hok
 have lpb : pb < w.heap.size := by
  have := q0; unfold World.cell? at this
  rcases Nat.lt_or_ge pb w.heap.size with h | h
  . exact h
  rw [Array.getElem?_eq_none h] at this; cases this
 have HPB := hid lpb; clear h1 h2 h3 h4 hpp hsz hok; go_enter Tryz.func198, Tryz.ntmps198; go_upto_region 5 with (fail)
 obtain ⟨w1, hw1⟩ : ∃ w1, w1 = (w.setCell ⟨sb, 3, none⟩ (.int .i64 r1)).alloc (.cells #[.string p.text, .int .i64 p.n, .int .i64 p.kind] 43) := ⟨_, rfl⟩; have hc1 : w1.heap[w.heap.size]? = some (.cells #[.string p.text, .int .i64 p.n, .int .i64 p.kind] 43 (0, 0)) := by rw [hw1]; exact zaB _ _ _ (by simp)
 have hs1 : w1.heap[sb]? = some (.cells #[.slice (some ⟨pb, off, none⟩) (p :: r).length cap, .int .i64 pos, .int .i64 em, .int .i64 r1] 78 (0, 0)) := by rw [hw1]; exact (zau _ _ _ (by simpa using l1)).trans (zac _ _ 3 _ _ _ _ H.out.1)
 have hp1 : w1.heap[pp]? = some (.cells arr 5 (0, 0)) := by rw [hw1]; exact (zau _ _ _ (by simpa using hlp)).trans ((zaf _ _ _ _ hne).trans HP.out.1)
 have hch : Chg sb pp w w1 := by rw [hw1]; exact (Chg.of_grown (zag w sb 3 (.int .i64 r1)) (.inl rfl)).trans (Chg.of_below ((Below.refl _ _).alloc (Nat.le_refl _) _))
 rw [<- hw1]; have hcs : w.heap.size ≠ sb /\ w.heap.size ≠ pp := by omega
 obtain ⟨cb, hcb⟩ : ∃ cb, cb = w.heap.size := ⟨_, rfl⟩; rw [<- hcb] at hc1 hcs ⊢; have hcbB : w.heap.size <= cb := by omega
 have H1 := hid (And.intro hc1 (And.intro hs1 (And.intro hp1 hch))); have d0 := zab _ _ 0 _ _ _ hc1; have d1 := zab _ _ 1 _ _ _ hc1; have d2 := zab _ _ 2 _ _ _ hc1; have e0 := zab _ _ 0 _ _ _ hs1; have e1 := zab _ _ 1 _ _ _ hs1; have e2 := zab _ _ 2 _ _ _ hs1; have e3 := zab _ _ 3 _ _ _ hs1; simp only [zLa, zLb, zLc, List.length_cons] at d0 d1 d2 e0 e1 e2 e3; have g0 := zae _ _ 0 _ _ hs1; have g1 := zae _ _ 1 _ _ hs1; have g2 := zae _ _ 2 _ _ hs1; have g3 := zae _ _ 3 _ _ hs1
 have ls1 := zaa hs1; have lc1 := zaa hc1; have lp1 := zaa hp1; clear hw1 hc1 hs1 hp1 hch c0 c3 f3 q0 q1 q2 lpb hr1 hcb hlp l1; by_cases hpos : pos < p.text.size
 . have hz : (pos : Int) < (p.text.size : Int) := by omega
   have hz0 : (pos : Int) <= (p.text.size : Int) := by omega
   have hcj : ∀ j, j < room -> (w1.cell? ⟨pp, j, none⟩).isSome = true := fun j hj => by
    rw [zab _ _ j _ _ _ H1.out.2.2.1, Array.getElem?_eq_getElem (by rw [HP.out.2]; exact hj)]; rfl
   have hfj : ∀ j, w1.frozen? ⟨pp, j, none⟩ = false := fun j => zae _ _ j _ _ H1.out.2.2.1; go_quiet (fail); go_upto_region 6 with (fail)
   refine wp_region_noPanic ?_; refine zaA (fun w' => w'.cell? ⟨cb, 0, none⟩ = some (.string p.text) /\ w'.cell? ⟨sb, 1, none⟩ = some (.int .i64 pos)) 9 (by kernel_rfl) ⟨d0, e1⟩ (fun hS0 => ?_); refine zak 0 hS0 ?_; (try simp only [Act.put, lA, lB, lC]); refine zak 1 hS0 ?_; (try simp only [Act.put, lA, lB, lC]); refine zak 2 hS0 ?_; (try simp only [Act.put, lA, lB, lC]); refine zak 3 hS0 ?_; (try simp only [Act.put, lA, lB, lC]); refine zak 4 hS0 ?_; (try simp only [Act.put, lA, lB, lC]); refine zak 5 hS0 ?_; (try simp only [Act.put, lA, lB, lC]); refine zak 6 hS0 ?_; (try simp only [Act.put, lA, lB, lC]); refine zak 7 hS0 ?_; (try simp only [Act.put, lA, lB, lC]); refine zaq 8 (by rfl) (by kernel_rfl) (fun K hK => ?_); refine zhU (by rfl) _ _ _ _ (by rfl) _ _ _ _ (by rfl) (by rfl) (ziG _ _ pp room room (p.text.extract pos p.text.size) (by intro j hj; exact hcj j hj) (by intro j; exact hfj j)) ?_; refine hK.out _ _ (fun _ => And.intro ((World.cell?_setCells_out pp _ 0 _ ⟨cb, 0, none⟩ (fun e => absurd e hcs.2)).trans d0) ((World.cell?_setCells_out pp _ 0 _ ⟨sb, 1, none⟩ (fun e => absurd e (Ne.symm hne))).trans e1)) ?_; clear hK K hS0; (try simp only [Act.put, lA, lB, lC])
   refine zaq 9 (by rfl) (by kernel_rfl) (fun K hK => ?_); go_simp; refine hK.out _ _ (fun h => absurd rfl h) ?_; clear hK K; (try simp only [Act.put, lA, lB, lC]); refine zaP (by kernel_rfl) ?_; refine NoPanic.normal ?_; obtain ⟨⟨arr2, k1, k2, _⟩, k4⟩ := zdd pp ((zbd (p.text.extract pos p.text.size)).take (min room (p.text.size - pos))) 0 (w1.drewN (nq + 1)) arr 5 H1.out.2.2.1; obtain ⟨n, hn⟩ : ∃ n, n = min room (p.text.size - pos) := ⟨_, rfl⟩; rw [<- hn] at k1 k4 ⊢; have hts := zbG p.text pos p.text.size (Nat.le_refl _)
   have kin : ∀ i, i < n -> arr2[i]? = some (.int .u8 (byt p.text (pos + i))) := fun i hi => by
    have hl : ((zbd (p.text.extract pos p.text.size)).take n).length = n := by rw [List.length_take, za3, hts]; omega
    have h := World.cell?_setCells_in pp ((zbd (p.text.extract pos p.text.size)).take n) 0 (w1.drewN (nq + 1)) (fun j hj => by rw [Nat.zero_add]; exact hcj j (by omega)) i (by omega); rw [Nat.zero_add, zab _ _ i _ _ _ k1] at h; rw [h, <- zjq p.text pos p.text.size i (Nat.le_refl _) (by omega)]; have e := zcV (p.text.extract pos p.text.size) i (by omega); rw [zLe (by rw [za3]; omega)] at e; rw [<- e, List.getElem_take]
   have hch2 : Chg sb pp w ((w1.drewN (nq + 1)).setCells pp 0 ((zbd (p.text.extract pos p.text.size)).take n)) := H1.out.2.2.2.trans ((Chg.of_below (⟨rfl, rfl, rfl, Nat.le_refl _, fun _ _ => rfl⟩ : Below w1.heap.size w1 (w1.drewN (nq + 1)))).trans (Chg.of_grown k4 (.inr rfl))); have hs2 := (k4.block sb ls1 (fun e => hne (by cases e; rfl))).trans H1.out.2.1; have hc2 := (k4.block cb lc1 (fun e => hcs.2 (by cases e; rfl))).trans H1.out.1; generalize (w1.drewN (nq + 1)).setCells pp 0 ((zbd (p.text.extract pos p.text.size)).take n) = w2 at k1 hch2 hs2 hc2 ⊢
   have H2 := hid (And.intro hs2 (And.intro k1 (And.intro k2 (And.intro kin hch2)))); have HN := hid hn; have hnb : n <= room /\ pos + n <= p.text.size := by omega
   have hw : IntKind.i64.wrap ((pos : Int) + (n : Int)) = (pos : Int) + (n : Int) := IntWalk.i64_in _ (by omega); have e1 := zab _ _ 1 _ _ _ hs2; have d0 := zab _ _ 0 _ _ _ hc2; have d2 := zab _ _ 2 _ _ _ hc2; simp only [zLa, zLb, zLc] at e1 d0 d2; have g1 := zae _ _ 1 _ _ hs2; have ls2 := zaa hs2; have lc2 := zaa hc2
   have hR : ∀ x, (p.kind = 5 /\ pos + n = p.text.size -> x = 14) -> (¬ (p.kind = 5 /\ pos + n = p.text.size) -> x = 0) -> zbj room (p :: r) pos em = (.ret n x, p.text.extract pos (pos + n), ⟨p :: r, pos + n, em⟩) := fun x h1 h2 => by
    rw [zbj, if_pos hpos, <- HN.out]; by_cases h : p.kind = 5 /\ pos + n = p.text.size
    . rw [if_pos h, h1 h]
    rw [if_neg h, h2 h]
   have hO : ∀ x, zbj room (p :: r) pos em = (.ret n x, p.text.extract pos (pos + n), ⟨p :: r, pos + n, em⟩) -> ∀ w9, w9.heap[sb]? = some (.cells #[.slice (some ⟨pb, off, none⟩) (p :: r).length cap, .int .i64 ((pos : Int) + n), .int .i64 em, .int .i64 r1] 78 (0, 0)) -> w9.heap[pp]? = some (.cells arr2 5 (0, 0)) -> Chg sb pp w w9 ->
    ReadO B sb pp room (zbj room (p :: r) pos em) w (.returned (.tuple #[.int .i64 n, errV x])) w9 := fun x hx w9 j1 j2 j3 => by
    rw [hx]; refine ⟨rfl, ⟨some ⟨pb, off, none⟩, cap, r1, pb, off, by rw [j1]; simp, H.out.2.1, h0, H.out.2.2.1, fun i q hq => ?_⟩, ⟨arr2, j2, H2.out.2.2.1.trans HP.out.2, fun i hi => ?_⟩, j3⟩
    . obtain ⟨a1, a2, a3⟩ := H.out.2.2.2 i q hq
      have hpbl := zaa H.out.1; have hb : w9.heap[pb]? = w.heap[pb]? := j3.keep pb HPB.out hpb (Ne.symm hnp); have hc : ∀ o, w9.cell? ⟨pb, o, none⟩ = w.cell? ⟨pb, o, none⟩ := fun o => by unfold World.cell?; rw [hb]
      exact ⟨(hc _).trans a1, (hc _).trans a2, (hc _).trans a3⟩
    have hi' : i < n := by
     have := zbG p.text pos (pos + n) hnb.2; rw [this] at hi; omega
    rw [H2.out.2.2.2.1 i hi', zjq p.text pos (pos + n) i hnb.2 (by omega)]
   have HO := hid (And.intro hR hO); clear hR hO k1 k2 k4 kin hch2 hs2 hc2 hn hts hcj hfj e0 e2 e3 g0 g2 g3 d1; go_upto_region 8 with (fail)
   have hs3 := zac w2 sb 1 (.int .i64 ((pos : Int) + (n : Int))) _ _ _ H2.out.1; have hp3 := (zaf w2 ⟨sb, 1, none⟩ (.int .i64 ((pos : Int) + (n : Int))) pp hne).trans H2.out.2.1; have hch3 : Chg sb pp w (w2.setCell ⟨sb, 1, none⟩ (.int .i64 ((pos : Int) + (n : Int)))) := H2.out.2.2.2.2.trans (Chg.of_grown (zag _ sb 1 _) (.inl rfl)); have hcsb : cb ≠ sb := hcs.1; have d0 : (w2.setCell ⟨sb, 1, none⟩ (.int .i64 ((pos : Int) + (n : Int)))).cell? ⟨cb, 0, none⟩ = some (.string p.text) := by rw [World.cell?_of_block (zaf w2 ⟨sb, 1, none⟩ _ cb hcsb)]; exact d0
   have d2 : (w2.setCell ⟨sb, 1, none⟩ (.int .i64 ((pos : Int) + (n : Int)))).cell? ⟨cb, 2, none⟩ = some (.int .i64 p.kind) := by rw [World.cell?_of_block (zaf w2 ⟨sb, 1, none⟩ _ cb hcsb)]; exact d2
   generalize w2.setCell ⟨sb, 1, none⟩ (.int .i64 ((pos : Int) + (n : Int))) = w3 at hs3 hp3 hch3 d0 d2 ⊢; have e1 := zab _ _ 1 _ _ _ hs3; simp only [List.setIfInBounds_toArray, List.set_cons_zero, List.set_cons_succ, zLa, zLb, zLc] at e1; have H3 := hid (And.intro hs3 (And.intro hp3 hch3)); clear hs3 hp3 hch3 g1 ls2 lc2 hw; by_cases hk : p.kind = 5
   . by_cases hend : pos + n = p.text.size
     . have hze : (pos : Int) + (n : Int) = (p.text.size : Int) := by omega
       have hzb : (((pos : Int) + (n : Int)) == (p.text.size : Int)) = true := by simp; omega
       have HX := HO.out.1 14 (fun _ => rfl) (fun h => absurd ⟨hk, hend⟩ h); have HK := hid HX; have hkb : (p.kind == 5) = true := by simp [hk]
       clear hend HX hk hze; go_quiet (fail); go_wp2_with (fail); refine bodyPost_ret (v := .tuple #[.int .i64 n, errV 14]) (by simp [results, Tryz.results198, go_sem, errV]) rfl (HO.out.2 14 HK.out _ H3.out.1 H3.out.2.1 (H3.out.2.2.drewN _))
     have hzb : (((pos : Int) + (n : Int)) == (p.text.size : Int)) = false := by simp; omega
     have HX := HO.out.1 0 (fun h => absurd h.2 hend) (fun _ => rfl); have HK := hid HX; have hkb : (p.kind == 5) = true := by simp [hk]
     clear hend HX hk; go_quiet (fail); go_wp2_with (fail); refine bodyPost_ret (v := .tuple #[.int .i64 n, errV 0]) (by simp [results, Tryz.results198, go_sem, errV]) rfl (HO.out.2 0 HK.out _ H3.out.1 H3.out.2.1 (H3.out.2.2.drewN _))
   have HX := HO.out.1 0 (fun h => absurd h.1 hk) (fun _ => rfl)
   have HK := hid HX; have hkb : (p.kind == 5) = false := by simp [hk]
   clear HX hk; go_quiet (fail); go_wp2_with (fail); refine bodyPost_ret (v := .tuple #[.int .i64 n, errV 0]) (by simp [results, Tryz.results198, go_sem, errV]) rfl (HO.out.2 0 HK.out _ H3.out.1 H3.out.2.1 (H3.out.2.2.drewN _))
 have hz : ¬ (pos : Int) < (p.text.size : Int) := by omega
 have hE : ∀ (X : Rd) (em' : Int), zbj room (p :: r) pos em = (X, ⟨#[]⟩, ⟨p :: r, pos, em'⟩) -> ∀ w9, w9.heap[sb]? = some (.cells #[.slice (some ⟨pb, off, none⟩) (p :: r).length cap, .int .i64 pos, .int .i64 em', .int .i64 r1] 78 (0, 0)) -> w9.heap[pp]? = some (.cells arr 5 (0, 0)) -> Chg sb pp w w9 ->
  ReadO B sb pp room (zbj room (p :: r) pos em) w (rdE X) w9 := fun X em' hx w9 j1 j2 j3 => by
  rw [hx]; refine ⟨rfl, ⟨some ⟨pb, off, none⟩, cap, r1, pb, off, j1, H.out.2.1, h0, H.out.2.2.1, fun i q hq => ?_⟩, ⟨arr, j2, HP.out.2, fun i hi => absurd (show i < 0 from hi) (by omega)⟩, j3⟩; obtain ⟨a1, a2, a3⟩ := H.out.2.2.2 i q hq; have hb : w9.heap[pb]? = w.heap[pb]? := j3.keep pb HPB.out hpb (Ne.symm hnp); have hc : ∀ o, w9.cell? ⟨pb, o, none⟩ = w.cell? ⟨pb, o, none⟩ := fun o => by unfold World.cell?; rw [hb]
  exact ⟨(hc _).trans a1, (hc _).trans a2, (hc _).trans a3⟩
 have HE := hid hE; clear hE; go_quiet (fail); have HQ0 : (w1.drewN nq).heap[cb]? = some (.cells #[.string p.text, .int .i64 p.n, .int .i64 p.kind] 43 (0, 0)) /\ (w1.drewN nq).heap[sb]? = some (.cells #[.slice (some ⟨pb, off, none⟩) (p :: r).length cap, .int .i64 pos, .int .i64 em, .int .i64 r1] 78 (0, 0)) /\ (w1.drewN nq).heap[pp]? = some (.cells arr 5 (0, 0)) /\ Chg sb pp w (w1.drewN nq) := ⟨H1.out.1, H1.out.2.1, H1.out.2.2.1, H1.out.2.2.2.drewN nq⟩; generalize w1.drewN nq = wq at HQ0 ⊢; clear d0 d1 d2 e0 e1 e2 e3 g0 g1 g2 g3 ls1 lc1 lp1; have d0 := zab _ _ 0 _ _ _ HQ0.1
 have d1 := zab _ _ 1 _ _ _ HQ0.1; have d2 := zab _ _ 2 _ _ _ HQ0.1; have e0 := zab _ _ 0 _ _ _ HQ0.2.1; have e1 := zab _ _ 1 _ _ _ HQ0.2.1; have e2 := zab _ _ 2 _ _ _ HQ0.2.1; have e3 := zab _ _ 3 _ _ _ HQ0.2.1; simp only [zLa, zLb, zLc, List.length_cons] at d0 d1 d2 e0 e1 e2 e3; have g0 := zae _ _ 0 _ _ HQ0.2.1; have g1 := zae _ _ 1 _ _ HQ0.2.1; have g2 := zae _ _ 2 _ _ HQ0.2.1; have g3 := zae _ _ 3 _ _ HQ0.2.1; have ls1 := zaa HQ0.2.1; have lc1 := zaa HQ0.1
 have lp1 := zaa HQ0.2.2.1; have HQ := hid HQ0; clear HQ0; by_cases hem : em < p.n
 . have hR : zbj room (p :: r) pos em = (.ret 0 0, ⟨#[]⟩, ⟨p :: r, pos, em + 1⟩) := by rw [zbj, if_neg hpos, if_pos hem]
   have HR := hid hR; have hw : IntKind.i64.wrap (em + 1) = em + 1 := IntWalk.i64_in _ (by omega); clear hR; go_upto_region 11 with (fail)
   go_quiet (fail); have HZ0 : (wq.drewN nq).heap[cb]? = some (.cells #[.string p.text, .int .i64 p.n, .int .i64 p.kind] 43 (0, 0)) /\ (wq.drewN nq).heap[sb]? = some (.cells #[.slice (some ⟨pb, off, none⟩) (p :: r).length cap, .int .i64 pos, .int .i64 em, .int .i64 r1] 78 (0, 0)) /\ (wq.drewN nq).heap[pp]? = some (.cells arr 5 (0, 0)) /\ Chg sb pp w (wq.drewN nq) := ⟨HQ.out.1, HQ.out.2.1, HQ.out.2.2.1, HQ.out.2.2.2.drewN nq⟩; generalize wq.drewN nq = wz at HZ0 ⊢; clear d0 d1 d2 e0 e1 e2 e3 g0 g1 g2 g3 ls1 lc1 lp1; have d0 := zab _ _ 0 _ _ _ HZ0.1; have d1 := zab _ _ 1 _ _ _ HZ0.1
   have d2 := zab _ _ 2 _ _ _ HZ0.1; have e0 := zab _ _ 0 _ _ _ HZ0.2.1; have e1 := zab _ _ 1 _ _ _ HZ0.2.1; have e2 := zab _ _ 2 _ _ _ HZ0.2.1; have e3 := zab _ _ 3 _ _ _ HZ0.2.1; simp only [zLa, zLb, zLc, List.length_cons] at d0 d1 d2 e0 e1 e2 e3; have g0 := zae _ _ 0 _ _ HZ0.2.1; have g1 := zae _ _ 1 _ _ HZ0.2.1; have g2 := zae _ _ 2 _ _ HZ0.2.1; have g3 := zae _ _ 3 _ _ HZ0.2.1; have ls1 := zaa HZ0.2.1; have lc1 := zaa HZ0.1; have lp1 := zaa HZ0.2.2.1; have HZ := hid HZ0
   clear HZ0; go_wp2_with (fail); refine bodyPost_ret (v := .tuple #[.int .i64 0, .nilIface]) (by simp [results, Tryz.results198, go_sem, errV]) rfl (HE.out (.ret 0 0) (em + 1) HR.out _ (zac _ sb 2 _ _ _ _ HZ.out.2.1) ((zaf _ _ _ _ hne).trans HZ.out.2.2.1) (HZ.out.2.2.2.trans (Chg.of_grown (zag _ sb 2 _) (.inl rfl))))
 go_upto_region 11 with (fail)
 go_quiet (fail); have HZ0 : (wq.drewN nq).heap[cb]? = some (.cells #[.string p.text, .int .i64 p.n, .int .i64 p.kind] 43 (0, 0)) /\ (wq.drewN nq).heap[sb]? = some (.cells #[.slice (some ⟨pb, off, none⟩) (p :: r).length cap, .int .i64 pos, .int .i64 em, .int .i64 r1] 78 (0, 0)) /\ (wq.drewN nq).heap[pp]? = some (.cells arr 5 (0, 0)) /\ Chg sb pp w (wq.drewN nq) := ⟨HQ.out.1, HQ.out.2.1, HQ.out.2.2.1, HQ.out.2.2.2.drewN nq⟩; generalize wq.drewN nq = wz at HZ0 ⊢; clear d0 d1 d2 e0 e1 e2 e3 g0 g1 g2 g3 ls1 lc1 lp1; have d0 := zab _ _ 0 _ _ _ HZ0.1; have d1 := zab _ _ 1 _ _ _ HZ0.1
 have d2 := zab _ _ 2 _ _ _ HZ0.1; have e0 := zab _ _ 0 _ _ _ HZ0.2.1; have e1 := zab _ _ 1 _ _ _ HZ0.2.1; have e2 := zab _ _ 2 _ _ _ HZ0.2.1; have e3 := zab _ _ 3 _ _ _ HZ0.2.1; simp only [zLa, zLb, zLc, List.length_cons] at d0 d1 d2 e0 e1 e2 e3; have g0 := zae _ _ 0 _ _ HZ0.2.1; have g1 := zae _ _ 1 _ _ HZ0.2.1; have g2 := zae _ _ 2 _ _ HZ0.2.1; have g3 := zae _ _ 3 _ _ HZ0.2.1; have ls1 := zaa HZ0.2.1; have lc1 := zaa HZ0.1; have lp1 := zaa HZ0.2.2.1; have HZ := hid HZ0
 clear HZ0; go_upto_region 14 with (fail)
 by_cases hk1 : p.kind = 1
 . have hk5 : p.kind = 1 \/ p.kind = 5 := .inl hk1
   have hR : zbj room (p :: r) pos em = (.ret 0 14, ⟨#[]⟩, ⟨p :: r, pos, em⟩) := by rw [zbj, if_neg hpos, if_neg hem, if_pos hk5]
   have HR := hid hR; have b1 : (p.kind == 1) = true := by simp [hk1]
   clear hR hk1 hk5; go_wp2_with (fail); refine bodyPost_ret (v := .tuple #[.int .i64 0, errV 14]) (by simp [results, Tryz.results198, go_sem, errV]) rfl (HE.out (.ret 0 14) em HR.out _ HZ.out.2.1 HZ.out.2.2.1 HZ.out.2.2.2)
 have b1 : (p.kind == 1) = false := by simp [hk1]
 by_cases hk5 : p.kind = 5
 . have hk15 : p.kind = 1 \/ p.kind = 5 := .inr hk5
   have hR : zbj room (p :: r) pos em = (.ret 0 14, ⟨#[]⟩, ⟨p :: r, pos, em⟩) := by rw [zbj, if_neg hpos, if_neg hem, if_pos hk15]
   have HR := hid hR; have b5 : (p.kind == 5) = true := by simp [hk5]
   clear hR hk1 hk5 hk15; go_wp2_with (fail); refine bodyPost_ret (v := .tuple #[.int .i64 0, errV 14]) (by simp [results, Tryz.results198, go_sem, errV]) rfl (HE.out (.ret 0 14) em HR.out _ HZ.out.2.1 HZ.out.2.2.1 HZ.out.2.2.2)
 have b5 : (p.kind == 5) = false := by simp [hk5]
 have hn15 : ¬ (p.kind = 1 \/ p.kind = 5) := fun h => h.elim hk1 hk5; by_cases hk2 : p.kind = 2
 . have hR : zbj room (p :: r) pos em = (.ret (-1) 0, ⟨#[]⟩, ⟨p :: r, pos, em⟩) := by rw [zbj, if_neg hpos, if_neg hem, if_neg hn15, if_pos hk2]
   have HR := hid hR; have b2 : (p.kind == 2) = true := by simp [hk2]
   clear hR hk1 hk5 hn15 hk2; go_wp2_with (fail); refine bodyPost_ret (v := .tuple #[.int .i64 (-1), .nilIface]) (by simp [results, Tryz.results198, go_sem, errV]) rfl (HE.out (.ret (-1) 0) em HR.out _ HZ.out.2.1 HZ.out.2.2.1 HZ.out.2.2.2)
 have b2 : (p.kind == 2) = false := by simp [hk2]
 by_cases hk3 : p.kind = 3
 . have hR : zbj room (p :: r) pos em = (.ret ((room : Int) + 1) 0, ⟨#[]⟩, ⟨p :: r, pos, em⟩) := by rw [zbj, if_neg hpos, if_neg hem, if_neg hn15, if_neg hk2, if_pos hk3]
   have HR := hid hR; have b3 : (p.kind == 3) = true := by simp [hk3]
   have hw : IntKind.i64.wrap ((room : Int) + 1) = (room : Int) + 1 := IntWalk.i64_in _ (by omega); clear hR hk1 hk5 hn15 hk2 hk3; go_wp2_with (fail); refine bodyPost_ret (v := .tuple #[.int .i64 ((room : Int) + 1), .nilIface]) (by simp [results, Tryz.results198, go_sem, errV]) rfl (HE.out (.ret ((room : Int) + 1) 0) em HR.out _ HZ.out.2.1 HZ.out.2.2.1 HZ.out.2.2.2)
 have b3 : (p.kind == 3) = false := by simp [hk3]
 by_cases hk4 : p.kind = 4
 . have hR : zbj room (p :: r) pos em = (.pan, ⟨#[]⟩, ⟨p :: r, pos, em⟩) := by rw [zbj, if_neg hpos, if_neg hem, if_neg hn15, if_neg hk2, if_neg hk3, if_pos hk4]
   have HR := hid hR; have b4 : (p.kind == 4) = true := by simp [hk4]
   clear hR hk1 hk5 hn15 hk2 hk3 hk4; go_wp2_with (fail); have hx := HE.out .pan em HR.out _ HZ.out.2.1 HZ.out.2.2.1 HZ.out.2.2.2; simp only [rdE] at hx; simpa [bodyPost] using hx
 have b4 : (p.kind == 4) = false := by simp [hk4]
 have hR : zbj room (p :: r) pos em = zbj room r 0 0 := by rw [zbj, if_neg hpos, if_neg hem, if_neg hn15, if_neg hk2, if_neg hk3, if_neg hk4]
 have HR := hid hR; clear hR hk1 hk5 hn15 hk2 hk3 hk4; obtain ⟨pa, hpa, hpa2⟩ : ∃ pa : Addr, (if cap = 1 then some (⟨pb, off, none⟩ : Addr) else some ⟨pb, off + 3, none⟩) = some pa /\ (pa = ⟨pb, off + 3, none⟩ \/ (cap = 1 /\ pa = ⟨pb, off, none⟩)) := by
  by_cases hcl : cap = 1
  . exact ⟨_, by rw [if_pos hcl], .inr ⟨hcl, rfl⟩⟩
  exact ⟨_, by rw [if_neg hcl], .inl rfl⟩
 have HPA := hid hpa2; have hcapz : (r.length : Int) + 1 <= (cap : Int) := by have := H.out.2.1; simp at this; omega
 have hcap1 : (1 : Int) <= (cap : Int) := by omega
 clear hpa2; go_upto_region 25 with (fail)
 have hs4 := zac _ sb 2 (.int .i64 0) _ _ _ (zac _ sb 1 (.int .i64 0) _ _ _ (zac wz sb 0 (.slice (some pa) r.length (cap - 1)) _ _ _ HZ.out.2.1)); have hp4 : (((wz.setCell ⟨sb, 0, none⟩ (.slice (some pa) r.length (cap - 1))).setCell ⟨sb, 1, none⟩ (.int .i64 0)).setCell ⟨sb, 2, none⟩ (.int .i64 0)).heap[pp]? = some (.cells arr 5 (0, 0)) := by
  rw [zaf _ _ _ _ hne, zaf _ _ _ _ hne, zaf _ _ _ _ hne]; exact HZ.out.2.2.1
 have hch4 : Chg sb pp w (((wz.setCell ⟨sb, 0, none⟩ (.slice (some pa) r.length (cap - 1))).setCell ⟨sb, 1, none⟩ (.int .i64 0)).setCell ⟨sb, 2, none⟩ (.int .i64 0)) :=
  ((HZ.out.2.2.2.trans (Chg.of_grown (zag _ sb 0 _) (.inl rfl))).trans (Chg.of_grown (zag _ sb 1 _) (.inl rfl))).trans (Chg.of_grown (zag _ sb 2 _) (.inl rfl))
 generalize (((wz.setCell ⟨sb, 0, none⟩ (.slice (some pa) r.length (cap - 1))).setCell ⟨sb, 1, none⟩ (.int .i64 0)).setCell ⟨sb, 2, none⟩ (.int .i64 0)) = w4 at hs4 hp4 hch4 ⊢; simp only [List.setIfInBounds_toArray, List.set_cons_zero, List.set_cons_succ] at hs4; obtain ⟨r2, hr2⟩ : ∃ x, IntKind.i64.wrap (r1 - 1) = x := ⟨_, rfl⟩; have e3 := zab _ _ 3 _ _ _ hs4; simp only [zLa, zLb, zLc] at e3; have g3 := zae _ _ 3 _ _ hs4; have ls4 := zaa hs4; have H4 := hid (And.intro hs4 (And.intro hp4 hch4))
 clear hs4 hp4 hch4; go_upto_region 26 with (fail)
 have hs5 := zac w4 sb 3 (.int .i64 r2) _ _ _ H4.out.1; have hp5 := (zaf w4 ⟨sb, 3, none⟩ (.int .i64 r2) pp hne).trans H4.out.2.1; have hch5 : Chg sb pp w (w4.setCell ⟨sb, 3, none⟩ (.int .i64 r2)) := H4.out.2.2.trans (Chg.of_grown (zag _ sb 3 _) (.inl rfl)); generalize w4.setCell ⟨sb, 3, none⟩ (.int .i64 r2) = w5 at hs5 hp5 hch5 ⊢; simp only [List.setIfInBounds_toArray, List.set_cons_zero, List.set_cons_succ] at hs5; have hsrc : zd5 B w5 sb ⟨r, 0, 0⟩ := by
  refine ⟨some pa, cap - 1, r2, pb, off + 3, hs5, by show r.length <= cap - 1; omega, h0, fun hrne => ⟨?_, hpb, hpbB⟩, fun i q hq => ?_⟩
  . rcases HPA.out with e | ⟨e1, e2⟩
    . rw [e]
    have : 0 < r.length := List.length_pos_iff.2 hrne
    omega
  obtain ⟨a1, a2, a3⟩ := H.out.2.2.2 (i + 1) q hq
  have hb : w5.heap[pb]? = w.heap[pb]? := hch5.keep pb HPB.out hpb (Ne.symm hnp); have hc : ∀ o, w5.cell? ⟨pb, o, none⟩ = w.cell? ⟨pb, o, none⟩ := fun o => by unfold World.cell?; rw [hb]
  rw [show off + 3 + i * 3 = off + (i + 1) * 3 by omega]; exact ⟨(hc _).trans a1, (hc _).trans a2, (hc _).trans a3⟩
 have hok5 : zfx ⟨r, 0, 0⟩ := ⟨fun q hq => HOK.out.text q (by simp [hq]), fun q hq => HOK.out.n q (by simp [hq]), fun q hq => HOK.out.kind q (by simp [hq]), by have := HOK.out.len; simp at this ⊢; omega, (show (0 : Nat) < 1000000 by decide), (show (0 : Int) <= 0 /\ (0 : Int) < 1000000000 by decide)⟩; have hih := ih 0 0 B w5 sb pp room arr hsrc hok5 hB hp5 HP.out.2 hroom; rw [<- HR.out] at hih; have HCH := hid hch5; clear hs5 hp5 hch5 hsrc hok5; obtain ⟨X, hX⟩ : ∃ X, X = zbj room (p :: r) pos em := ⟨_, rfl⟩; rw [<- hX] at hih
 have hfin : ∀ e w6, ReadO B sb pp room X w5 e w6 -> ReadO B sb pp room (zbj room (p :: r) pos em) w e w6 := fun e w6 h => by rw [<- hX]; exact ⟨h.1, h.2.1, h.2.2.1, HCH.out.trans h.2.2.2⟩
 clear hX; have HFN := hid hfin; clear hfin; obtain ⟨X1, X2, X3⟩ := X; have HIH := hid hih; clear hih; cases X1 with
 | ret ne x =>
  obtain ⟨ev, hev⟩ : ∃ ev, ev = errV x := ⟨_, rfl⟩; have HEV := hid hev; clear hev; go_wp2_with (first | (go_at_call 198; refine (HIH.out).mono ?_; intro e w6 ho; obtain ⟨rfl, ho2⟩ := ho; have HX := hid ho2; clear ho2; simp only [rdE]; rw [<- HEV.out])); refine bodyPost_ret (v := .tuple #[.int .i64 ne, ev]) (by simp [results, Tryz.results198, go_sem]) rfl (HFN.out _ _ ⟨(by rw [HEV.out]; rfl : Ending.returned (.tuple #[.int .i64 ne, ev]) = rdE (.ret ne x)), HX.out⟩)
 | pan =>
  go_wp2_with (first | (go_at_call 198; refine (HIH.out).mono ?_; intro e w6 ho; obtain ⟨rfl, ho2⟩ := ho; have HX := hid ho2; clear ho2; simp only [rdE])); have hx := HFN.out (rdE .pan) _ ⟨rfl, HX.out⟩; simp only [rdE] at hx; simpa [bodyPost] using hx
theorem zj5 : ∀ l, ReadC l
 | [] => read_nil
 | p :: r => read_cons p r (zj5 r)
end
section
open Go.RowKit Go.Lib
theorem rep13 : Array.replicate 13 undef = #[undef, undef, undef, undef, undef, undef, undef, undef, undef, undef, undef, undef, undef] := rfl
theorem zjg (na pa ea pp room : Nat) (n : Int) (w : World) (hn : w.cell? ⟨na, 0, none⟩ = some (.int .i64 n)) (hp : w.cell? ⟨pa, 0, none⟩ = some (.slice (some ⟨pp, 0, none⟩) room room)) (h0 : 0 <= n) (h1 : n <= (room : Int)) :
 CallsD Tryz.prog 86 #[.pointer (some ⟨na, 0, none⟩), .pointer (some ⟨pa, 0, none⟩), .pointer (some ⟨ea, 0, none⟩)] .returning w fun e u' w' => e = .returned (.tuple #[]) /\ u' = .returning /\ w' = w := by
 have h0' : ¬ n < 0 := by omega
 have h1' : ¬ (room : Int) < n := by omega
 refine callsD_of_wpS Tryz.func86 rfl fun c₀ cs hu => ?_; apply wpS_seq; apply wpS_region; generalize hQ : Exit.thenS _ _ = Q; simp [wpOpsS, go_sem, recoverD, hu, Tryz.ntmps86, hn, hp, h0', h1']; rw [rep13]; simp only [List.setIfInBounds_toArray, List.set_cons_zero, List.set_cons_succ, List.append_toArray, List.cons_append, List.nil_append]; subst hQ; simp only [Exit.thenS]; refine wpS_of_wp (wp_mono (Q := fun en a' w' => en = .normal /\ a'.defers = [] /\ w' = w) ?_ ?_)
 . go_wp2
   all_goals trivial
 rintro e a' w' ⟨rfl, hd, rfl⟩
 cases c₀; simp_all [bodyPostS, results, Tryz.results86]
theorem zkq (na pa ea pp room : Nat) (n : Int) (ev : Value) (w : World) (hn : w.cell? ⟨na, 0, none⟩ = some (.int .i64 n)) (he : w.cell? ⟨ea, 0, none⟩ = some ev) (hp : w.cell? ⟨pa, 0, none⟩ = some (.slice (some ⟨pp, 0, none⟩) room room)) (fn : w.frozen? ⟨na, 0, none⟩ = false) (fe : w.frozen? ⟨ea, 0, none⟩ = false) (hne : na ≠ ea) (h0 : n < 0) :
 CallsD Tryz.prog 86 #[.pointer (some ⟨na, 0, none⟩), .pointer (some ⟨pa, 0, none⟩), .pointer (some ⟨ea, 0, none⟩)] .returning w fun e u' w' => e = .returned (.tuple #[]) /\ u' = .returning /\ w' = (w.setCell ⟨na, 0, none⟩ (.int .i64 0)).setCell ⟨ea, 0, none⟩ (.iface 51 (.int .i64 11)) := by
 have la := zca hn; have lb := zca he; refine callsD_of_wpS Tryz.func86 rfl fun c₀ cs hu => ?_; apply wpS_seq; apply wpS_region; generalize hQ : Exit.thenS _ _ = Q; simp [wpOpsS, go_sem, recoverD, hu, Tryz.ntmps86, hn, hp, h0]; rw [rep13]; simp only [List.setIfInBounds_toArray, List.set_cons_zero, List.set_cons_succ, List.append_toArray, List.cons_append, List.nil_append]; subst hQ; simp only [Exit.thenS]
 refine wpS_of_wp (wp_mono (Q := fun en a' w' => en = .normal /\ a'.defers = [] /\ w' = (w.setCell ⟨na, 0, none⟩ (.int .i64 0)).setCell ⟨ea, 0, none⟩ (.iface 51 (.int .i64 11))) ?_ ?_)
 . go_wp2
   all_goals trivial
 rintro e a' w' ⟨rfl, hd, rfl⟩
 cases c₀; simp_all [bodyPostS, results, Tryz.results86]
theorem ziM (na pa ea pp room : Nat) (n : Int) (ev : Value) (w : World) (hn : w.cell? ⟨na, 0, none⟩ = some (.int .i64 n)) (he : w.cell? ⟨ea, 0, none⟩ = some ev) (hp : w.cell? ⟨pa, 0, none⟩ = some (.slice (some ⟨pp, 0, none⟩) room room)) (fn : w.frozen? ⟨na, 0, none⟩ = false) (fe : w.frozen? ⟨ea, 0, none⟩ = false) (hne : na ≠ ea) (h0 : ¬ n < 0) (h1 : (room : Int) < n) :
 CallsD Tryz.prog 86 #[.pointer (some ⟨na, 0, none⟩), .pointer (some ⟨pa, 0, none⟩), .pointer (some ⟨ea, 0, none⟩)] .returning w fun e u' w' => e = .returned (.tuple #[]) /\ u' = .returning /\ w' = (w.setCell ⟨na, 0, none⟩ (.int .i64 0)).setCell ⟨ea, 0, none⟩ (.iface 51 (.int .i64 11)) := by
 have la := zca hn; have lb := zca he; refine callsD_of_wpS Tryz.func86 rfl fun c₀ cs hu => ?_; apply wpS_seq; apply wpS_region; generalize hQ : Exit.thenS _ _ = Q; simp [wpOpsS, go_sem, recoverD, hu, Tryz.ntmps86, hn, hp, h0, h1]; rw [rep13]; simp only [List.setIfInBounds_toArray, List.set_cons_zero, List.set_cons_succ, List.append_toArray, List.cons_append, List.nil_append]; subst hQ; simp only [Exit.thenS]
 refine wpS_of_wp (wp_mono (Q := fun en a' w' => en = .normal /\ a'.defers = [] /\ w' = (w.setCell ⟨na, 0, none⟩ (.int .i64 0)).setCell ⟨ea, 0, none⟩ (.iface 51 (.int .i64 11))) ?_ ?_)
 . go_wp2
   all_goals trivial
 rintro e a' w' ⟨rfl, hd, rfl⟩
 cases c₀; simp_all [bodyPostS, results, Tryz.results86]
theorem zkL (na pa ea pp room : Nat) (n : Int) (ev : Value) (w : World) (hn : w.cell? ⟨na, 0, none⟩ = some (.int .i64 n)) (he : w.cell? ⟨ea, 0, none⟩ = some ev) (hp : w.cell? ⟨pa, 0, none⟩ = some (.slice (some ⟨pp, 0, none⟩) room room)) (fn : w.frozen? ⟨na, 0, none⟩ = false) (fe : w.frozen? ⟨ea, 0, none⟩ = false) (hne : na ≠ ea) :
 CallsD Tryz.prog 86 #[.pointer (some ⟨na, 0, none⟩), .pointer (some ⟨pa, 0, none⟩), .pointer (some ⟨ea, 0, none⟩)] (.panicking [{ v := .iface 9 (.string zfV), recovered := false }]) w fun e u' w' => e = .returned (.tuple #[]) /\ u' = .panicking [{ v := .iface 9 (.string zfV), recovered := true }] /\ w' = (w.setCell ⟨na, 0, none⟩ (.int .i64 0)).setCell ⟨ea, 0, none⟩ (.iface 51 (.int .i64 11)) := by
 have la := zca hn; have lb := zca he; refine callsD_of_wpS Tryz.func86 rfl fun c₀ cs hu => ?_; apply wpS_seq; apply wpS_region; generalize hQ : Exit.thenS _ _ = Q; simp [wpOpsS, go_sem, recoverD, hu, Tryz.ntmps86, hn, hp]; rw [rep13]; simp only [List.setIfInBounds_toArray, List.set_cons_zero, List.set_cons_succ, List.append_toArray, List.cons_append, List.nil_append]; subst hQ; simp only [Exit.thenS]; refine wpS_of_wp (wp_mono (Q := fun en a' w' => en = .normal /\ a'.defers = [] /\ w' = (w.setCell ⟨na, 0, none⟩ (.int .i64 0)).setCell ⟨ea, 0, none⟩ (.iface 51 (.int .i64 11))) ?_ ?_)
 . go_wp2
   all_goals trivial
 rintro e a' w' ⟨rfl, hd, rfl⟩
 cases c₀; simp_all [bodyPostS, results, Tryz.results86]
end
section
open Go.RowKit Go.Lib
def zaY (room : Nat) (S : Src) : Nat × Nat × ByteArray × Src :=
 match zeR room S with
 | (.ret n e, b, S') => if n < 0 \/ (room : Int) < n then (0, 11, ⟨#[]⟩, S') else (n.toNat, e, b, S')
 | (.pan, _, S') => (0, 11, ⟨#[]⟩, S')
theorem zee (room : Nat) : ∀ (l : List Pc) (pos : Nat) (em : Int) (n : Int) (e : Nat), (zbj room l pos em).1 = .ret n e -> 0 <= n -> n <= (room : Int) -> (zbj room l pos em).2.1.size = n.toNat
 | [], pos, em, n, e, h, h0, h1 => by
  simp only [zbj] at h ⊢; cases h; rfl
 | p :: r, pos, em, n, e, h, h0, h1 => by
  rw [zbj] at h ⊢; by_cases c1 : pos < p.text.size
  . rw [if_pos c1] at h ⊢
    cases h; show (p.text.extract pos _).size = _; rw [zbG _ _ _ (by omega)]; omega
  rw [if_neg c1] at h ⊢
  by_cases c2 : em < p.n
  . rw [if_pos c2] at h ⊢; cases h; rfl
  rw [if_neg c2] at h ⊢
  by_cases c3 : p.kind = 1 \/ p.kind = 5
  . rw [if_pos c3] at h ⊢; cases h; rfl
  rw [if_neg c3] at h ⊢
  by_cases c4 : p.kind = 2
  . rw [if_pos c4] at h; cases h; omega
  rw [if_neg c4] at h ⊢
  by_cases c5 : p.kind = 3
  . rw [if_pos c5] at h; cases h; omega
  rw [if_neg c5] at h ⊢
  by_cases c6 : p.kind = 4
  . rw [if_pos c6] at h; cases h
  rw [if_neg c6] at h ⊢
  exact zee room r 0 0 n e h h0 h1
def zgV (B sb pp room : Nat) (X : Nat × Nat × ByteArray × Src) (w : World) (e : Ending) (w' : World) : Prop :=
 e = .returned (.tuple #[.int .i64 X.1, errV X.2.1]) /\ zd5 B w' sb X.2.2.2 /\ (∃ arr, w'.heap[pp]? = some (.cells arr 5 (0, 0)) /\ arr.size = room /\ ∀ i, i < X.1 -> arr[i]? = some (.int .u8 (byt X.2.2.1 i))) /\ Chg sb pp w w'
def PanQ (Pn : List PanicEntry -> World -> Prop) (Inv : Act -> Prop) (Q : Exit -> Act -> World -> Prop) : Exit -> Act -> World -> Prop
 | .panic c, a, w => Pn c w /\ Inv a
 | e, a, w => Q e a w
def OnInv (na ea : Nat) (ds : List Deferred) (a : Act) : Prop := a.tmps.getD 4 undef = .pointer (some ⟨na, 0, none⟩) /\ a.tmps.getD 5 undef = .pointer (some ⟨ea, 0, none⟩) /\ a.defers = ds
theorem zgS {na ea d : Nat} {ds : List Deferred} {a : Act} {v : Value} (h4 : d ≠ 4) (h5 : d ≠ 5) (h : OnInv na ea ds (a.put (some d) v)) : OnInv na ea ds a := by
 obtain ⟨h1, h2, h3⟩ := h; refine ⟨?_, ?_, h3⟩
 . rw [<- h1]
   simp [Act.put, Array.getD_eq_getD_getElem?, Array.getElem?_setIfInBounds_ne h4]
 rw [<- h2]
 simp [Act.put, Array.getD_eq_getD_getElem?, Array.getElem?_setIfInBounds_ne h5]
theorem zg0 {P : Program} {id : Nat} {ops : Array Oper} {b : Bool} {Q : Exit -> Act -> World -> Prop} {a : Act} {w : World} (Pn : List PanicEntry -> World -> Prop) (Inv : Act -> Prop) (hp : ∀ c a w, Pn c w -> Inv a -> Q (.panic c) a w) (h : (Code.region id ops b).wp P (PanQ Pn Inv Q) a w) : (Code.region id ops b).wp P Q a w :=
 Code.wp_mono (fun e a w h => by cases e <;> first | exact h | exact hp _ _ _ h.1 h.2) h
theorem once_any (S : Src) (B : Nat) (w : World) (bs bt sb pp room C : Nat) (arr : Array Value) (bv why err : Value) (at' line col : Int) (hSc : ScAt w bs bt (.iface 44 (zaj sb)) C bv why err at' line col) (hS : zd5 B w sb S) (hok : zfx S) (hbs : bs ≠ sb /\ bs ≠ pp) (hBw : B <= w.heap.size) (hB : B <= pp) (hpp : w.heap[pp]? = some (.cells arr 5 (0, 0))) (hsz : arr.size = room) (hroom : room < 1000000) :
 Calls Tryz.prog 69 #[zaj bs, .slice (some ⟨pp, 0, none⟩) room room] w (zgV B sb pp room (zaY room S) w) := by
 have hmf : ∀ (fn : Fn) (first cap : Array Value) (w : World), (Instr.makeFunc fn first cap).run Tryz.prog w = .ok (.func fn first cap) w := fun _ _ _ _ => rfl; have hm : ∀ w : World, (method 447 44 (zaj sb) "Read").run Tryz.prog w = .ok (198, zaj sb) w := fun _ => by kernel_rfl
 have lbs := zaa hSc; have lpp := zaa hpp; obtain ⟨w3, hw3⟩ : ∃ w3, w3 = ((w.alloc (.cells #[.slice (some ⟨pp, 0, none⟩) room room] 55)).alloc (.cells #[.int .i64 0] 3)).alloc (.cells #[.nilIface] 34) := ⟨_, rfl⟩; have hb3 : Below w.heap.size w w3 := by rw [hw3]; exact (((Below.refl _ w).alloc (Nat.le_refl _) _).alloc (by simp) _).alloc (by simp; omega) _
 have hp3 : w3.heap[w.heap.size]? = some (.cells #[.slice (some ⟨pp, 0, none⟩) room room] 55 (0, 0)) := by
  rw [hw3]; exact (zau _ _ _ (by simp; omega)).trans ((zau _ _ _ (by simp)).trans (zaB _ _ _ rfl))
 have hn3 : w3.heap[w.heap.size + 1]? = some (.cells #[.int .i64 0] 3 (0, 0)) := by
  rw [hw3]; exact (zau _ _ _ (by simp)).trans (zaB _ _ _ (by simp))
 have he3 : w3.heap[w.heap.size + 1 + 1]? = some (.cells #[.nilIface] 34 (0, 0)) := by
  rw [hw3]; exact zaB _ _ _ (by simp)
 have hsc3 := (hb3.block bs lbs).trans hSc; have hpp3 := (hb3.block pp lpp).trans hpp; have hsrc3 : zd5 B w3 sb S := hS.below (fun b hb => hb3.block b (zLd hb hBw)); have hread := zj5 S.l S.pos S.empty B w3.drew sb pp room arr (hsrc3.below (fun _ _ => rfl)) hok hB hpp3 hsz hroom; have s1 := zab _ _ 1 _ _ _ hsc3; have p0 := zab _ _ 0 _ _ _ hp3; simp only [zLa, zLb, zLc] at s1 p0; have HW := hid (And.intro hb3 (And.intro hp3 (And.intro hn3 he3)))
 have HSC := hid (And.intro hSc (And.intro hS (And.intro hok hpp))); have hXe : zbj room S.l S.pos S.empty = zeR room S := rfl; rw [hXe] at hread; obtain ⟨X, hX⟩ : ∃ X, X = zeR room S := ⟨_, rfl⟩; rw [<- hX] at hread; obtain ⟨X1, X2, X3⟩ := X; have HX := hid hX; have HREAD := hid hread; clear hread hX hXe hSc hS hok hpp hb3 hp3 hn3 he3 hsc3 hpp3 hsrc3
 go_enter_defers Tryz.func69, Tryz.ntmps69
 go_wp2_with (fail); rw [<- hw3]; clear hw3; cases X1 with
 | ret n x =>
  refine wp_region_noPanic ?_; refine zaA (fun w' => w'.cell? ⟨bs, 1, none⟩ = some (.iface 44 (zaj sb)) /\ w'.cell? ⟨w.heap.size, 0, none⟩ = some (.slice (some ⟨pp, 0, none⟩) room room)) 9 (by kernel_rfl) ⟨s1, p0⟩ (fun hS0 => ?_); refine zak 0 hS0 ?_; (try simp only [Act.put, lA, lB, lC]); refine zak 1 hS0 ?_; (try simp only [Act.put, lA, lB, lC]); refine zak 2 hS0 ?_; (try simp only [Act.put, lA, lB, lC]); refine zak 3 hS0 ?_; (try simp only [Act.put, lA, lB, lC]); refine zak 4 hS0 ?_; (try simp only [Act.put, lA, lB, lC]); refine zaq 5 (by rfl) (by kernel_rfl) (fun K hK => ?_); go_simp; go_at_call 198; refine (HREAD.out).mono ?_; intro e w4 ho; obtain ⟨rfl, hsrc4, hp4, hch4⟩ := ho; simp only [rdE]; have lsb : sb < B := by obtain ⟨_, _, _, _, _, _, _, h, _⟩ := HSC.out.2.1; exact h
  have lb3 : w.heap.size + 1 + 1 < w3.heap.size := zaa HW.out.2.2.2; have z1 : w4.cell? ⟨bs, 1, none⟩ = some (.iface 44 (zaj sb)) := (World.cell?_of_block (hch4.keep bs (by show bs < w3.heap.size; omega) hbs.1 hbs.2)).trans s1; have z0 : w4.cell? ⟨w.heap.size, 0, none⟩ = some (.slice (some ⟨pp, 0, none⟩) room room) := (World.cell?_of_block (hch4.keep w.heap.size (by show w.heap.size < w3.heap.size; omega) (by omega) (by omega))).trans p0; have hpa4 := (hch4.keep w.heap.size (by show w.heap.size < w3.heap.size; omega) (by omega) (by omega)).trans HW.out.2.1
  have hna4 := (hch4.keep (w.heap.size + 1) (by show w.heap.size + 1 < w3.heap.size; omega) (by omega) (by omega)).trans HW.out.2.2.1; have hea4 := (hch4.keep (w.heap.size + 1 + 1) (by show w.heap.size + 1 + 1 < w3.heap.size; omega) (by omega) (by omega)).trans HW.out.2.2.2; have H4 := hid (And.intro hsrc4 (And.intro hp4 (And.intro hch4 (And.intro hpa4 (And.intro hna4 hea4))))); refine hK.out _ _ (fun _ => ⟨z1, z0⟩) ?_; clear hK K hS0; (try simp only [Act.put, lA, lB, lC])
  obtain ⟨ev, hev, hform⟩ : ∃ ev, errV x = ev /\ (ev = .nilIface \/ ∃ k, ev = .iface 51 (.int .i64 k)) := ⟨_, rfl, by unfold errV; split <;> simp⟩; rw [hev]; have HEV := hid hev; clear hev; have na0 := zab _ _ 0 _ _ _ hna4; have ea0 := zab _ _ 0 _ _ _ hea4; simp only [zLa, zLb] at na0 ea0; have fna := zae _ _ 0 _ _ hna4; have fea := zae _ _ 0 _ _ hea4; have lna := zaa hna4; have lea := zaa hea4
  have hfin : ∀ (m e : Nat) (bb : ByteArray) (w7 : World), zaY room S = (m, e, bb, X3) -> (m = 0 \/ (m <= X2.size /\ bb = X2)) -> (∀ b, b < w.heap.size -> w7.heap[b]? = w4.heap[b]?) -> w4.heap.size <= w7.heap.size -> w7.os = w4.os -> w7.tape = w4.tape -> w7.output = w4.output ->
   zgV B sb pp room (zaY room S) w (.returned (.tuple #[.int .i64 m, errV e])) w7 := fun m e bb w7 h1 h2 h3 h4 h5 h6 h7 => by
   rw [h1]; obtain ⟨arr4, j1, j2, j3⟩ := H4.out.2.1; have c1 : Chg sb pp w w4 := (Chg.of_below HW.out.1).trans ⟨H4.out.2.2.1.os, H4.out.2.2.1.tape, H4.out.2.2.1.output, H4.out.2.2.1.size, H4.out.2.2.1.keep⟩; refine ⟨rfl, H4.out.1.below (fun b hb => h3 b (by omega)), ⟨arr4, (h3 pp (lpp)).trans j1, j2, fun i hi => ?_⟩, ⟨h5.trans c1.os, h6.trans c1.tape, h7.trans c1.output, Nat.le_trans c1.size h4, fun b hb k1 k2 => (h3 b hb).trans (c1.keep b hb k1 k2)⟩⟩
   rcases h2 with h2 | ⟨h2, h2b⟩
   . simp only at hi; omega
   simp only at hi ⊢; rw [h2b]; exact j3 i (show i < X2.size by omega)
  have HFIN := hid hfin; clear hfin; clear hsrc4 hp4 hch4 hpa4 hna4 hea4
  rcases hform with rfl | ⟨k, rfl⟩
  . have hS0 := And.intro z1 z0
    refine zak 6 hS0 ?_; (try simp only [Act.put, lA, lB, lC]); refine zak 7 hS0 ?_; (try simp only [Act.put, lA, lB, lC]); clear z1 z0; obtain ⟨z1, z0⟩ := hS0; have hs8 : ∀ v : Value, (w4.setCell ⟨w.heap.size + 1, 0, none⟩ v).cell? ⟨bs, 1, none⟩ = some (.iface 44 (zaj sb)) /\ (w4.setCell ⟨w.heap.size + 1, 0, none⟩ v).cell? ⟨w.heap.size, 0, none⟩ = some (.slice (some ⟨pp, 0, none⟩) room room) := fun v =>
     ⟨(World.cell?_of_block (zaf _ _ _ _ (by show bs ≠ w.heap.size + 1; omega))).trans z1, (World.cell?_of_block (zaf _ _ _ _ (by show w.heap.size ≠ w.heap.size + 1; omega))).trans z0⟩
    refine zaq 8 (by rfl) (by kernel_rfl) (fun K hK => ?_); go_simp; refine hK.out _ _ (fun _ => hs8 _) ?_; clear hK K; (try simp only [Act.put, lA, lB, lC]); refine zaq 9 (by rfl) (by kernel_rfl) (fun K hK => ?_); go_simp; refine hK.out _ _ (fun h => absurd rfl h) ?_; clear hK K; (try simp only [Act.put, lA, lB, lC]); refine zaP (by kernel_rfl) ?_; refine NoPanic.normal ?_; go_wp2_with (fail); clear z1 z0 hs8 na0 ea0 fna fea
    have hna6 := (zaf (w4.setCell ⟨w.heap.size + 1, 0, none⟩ (.int .i64 n)) ⟨w.heap.size + 1 + 1, 0, none⟩ .nilIface (w.heap.size + 1) (by show w.heap.size + 1 ≠ w.heap.size + 1 + 1; omega)).trans (zac w4 (w.heap.size + 1) 0 (.int .i64 n) _ _ _ H4.out.2.2.2.2.1); have hea6 := zac (w4.setCell ⟨w.heap.size + 1, 0, none⟩ (.int .i64 n)) (w.heap.size + 1 + 1) 0 .nilIface _ _ _ ((zaf w4 ⟨w.heap.size + 1, 0, none⟩ (.int .i64 n) (w.heap.size + 1 + 1) (by show w.heap.size + 1 + 1 ≠ w.heap.size + 1; omega)).trans H4.out.2.2.2.2.2)
    have hk6 : ∀ b, b < w.heap.size + 1 -> ((w4.setCell ⟨w.heap.size + 1, 0, none⟩ (.int .i64 n)).setCell ⟨w.heap.size + 1 + 1, 0, none⟩ .nilIface).heap[b]? = w4.heap[b]? := fun b hb => by
     rw [zaf _ _ _ _ (by show b ≠ w.heap.size + 1 + 1; omega), zaf _ _ _ _ (by show b ≠ w.heap.size + 1; omega)]
    have hz6 : ((w4.setCell ⟨w.heap.size + 1, 0, none⟩ (.int .i64 n)).setCell ⟨w.heap.size + 1 + 1, 0, none⟩ .nilIface).heap.size = w4.heap.size := by simp
    have ho6 : ((w4.setCell ⟨w.heap.size + 1, 0, none⟩ (.int .i64 n)).setCell ⟨w.heap.size + 1 + 1, 0, none⟩ .nilIface).os = w4.os /\ ((w4.setCell ⟨w.heap.size + 1, 0, none⟩ (.int .i64 n)).setCell ⟨w.heap.size + 1 + 1, 0, none⟩ .nilIface).tape = w4.tape /\ ((w4.setCell ⟨w.heap.size + 1, 0, none⟩ (.int .i64 n)).setCell ⟨w.heap.size + 1 + 1, 0, none⟩ .nilIface).output = w4.output := ⟨rfl, rfl, rfl⟩; generalize (w4.setCell ⟨w.heap.size + 1, 0, none⟩ (.int .i64 n)).setCell ⟨w.heap.size + 1 + 1, 0, none⟩ .nilIface = w6 at hna6 hea6 hk6 hz6 ho6 ⊢
    have hpa6 := (hk6 w.heap.size (by omega)).trans H4.out.2.2.2.1; have qn := zab _ _ 0 _ _ _ hna6; have qe := zab _ _ 0 _ _ _ hea6; have qp := zab _ _ 0 _ _ _ hpa6; simp only [List.setIfInBounds_toArray, List.set_cons_zero, zLa, zLb] at qn qe qp; have rn := zae _ _ 0 _ _ hna6; have re := zae _ _ 0 _ _ hea6; have hnee : w.heap.size + 1 ≠ w.heap.size + 1 + 1 := by omega
    have hbad : n < 0 \/ (room : Int) < n -> zaY room S = (0, 11, ⟨#[]⟩, X3) := fun h => by unfold zaY; rw [<- HX.out]; exact if_pos h
    have hbadfin : ∀ w7, (∀ b, b < w.heap.size -> w7.heap[b]? = w6.heap[b]?) -> w6.heap.size <= w7.heap.size -> w7.os = w6.os -> w7.tape = w6.tape -> w7.output = w6.output -> (n < 0 \/ (room : Int) < n) -> zgV B sb pp room (zaY room S) w (.returned (.tuple #[.int .i64 0, .iface 51 (.int .i64 11)])) w7 := fun w7 g1 g2 g3 g4 g5 g6 =>
     HFIN.out 0 11 ⟨#[]⟩ w7 (hbad g6) (.inl rfl) (fun b hb => (g1 b hb).trans (hk6 b (by omega))) (by omega) (g3.trans ho6.1) (g4.trans ho6.2.1) (g5.trans ho6.2.2)
    refine leaves_cons (f := 86) (args := #[.pointer (some ⟨w.heap.size + 1, 0, none⟩), .pointer (some ⟨w.heap.size, 0, none⟩), .pointer (some ⟨w.heap.size + 1 + 1, 0, none⟩)]) (by simp) (by simp [go_sem]) ?_; have hw7x : ∀ (b : Nat), ((w6.setCell ⟨w.heap.size + 1, 0, none⟩ (.int .i64 0)).setCell ⟨w.heap.size + 1 + 1, 0, none⟩ (.iface 51 (.int .i64 11))).heap[b]? = if b = w.heap.size + 1 then some (.cells #[.int .i64 0] 3 (0, 0)) else if b = w.heap.size + 1 + 1 then some (.cells #[.iface 51 (.int .i64 11)] 34 (0, 0)) else w6.heap[b]? := fun b => by
     by_cases b1 : b = w.heap.size + 1
     . rw [if_pos b1, b1, zaf _ _ _ _ (by show w.heap.size + 1 ≠ w.heap.size + 1 + 1; omega)]
       exact zac _ _ 0 _ _ _ _ hna6
     rw [if_neg b1]
     by_cases b2 : b = w.heap.size + 1 + 1
     . rw [if_pos b2, b2]
       exact zac _ _ 0 _ _ _ _ ((zaf _ _ _ _ (by show w.heap.size + 1 + 1 ≠ w.heap.size + 1; omega)).trans hea6)
     rw [if_neg b2, zaf _ _ _ _ b2, zaf _ _ _ _ b1]
    have HV7 := hid hw7x; have hz7 : ((w6.setCell ⟨w.heap.size + 1, 0, none⟩ (.int .i64 0)).setCell ⟨w.heap.size + 1 + 1, 0, none⟩ (.iface 51 (.int .i64 11))).heap.size = w6.heap.size := by simp
    have ho7 : ((w6.setCell ⟨w.heap.size + 1, 0, none⟩ (.int .i64 0)).setCell ⟨w.heap.size + 1 + 1, 0, none⟩ (.iface 51 (.int .i64 11))).os = w6.os /\ ((w6.setCell ⟨w.heap.size + 1, 0, none⟩ (.int .i64 0)).setCell ⟨w.heap.size + 1 + 1, 0, none⟩ (.iface 51 (.int .i64 11))).tape = w6.tape /\ ((w6.setCell ⟨w.heap.size + 1, 0, none⟩ (.int .i64 0)).setCell ⟨w.heap.size + 1 + 1, 0, none⟩ (.iface 51 (.int .i64 11))).output = w6.output := ⟨rfl, rfl, rfl⟩
    have hb7 : ∀ w7, w7 = ((w6.setCell ⟨w.heap.size + 1, 0, none⟩ (.int .i64 0)).setCell ⟨w.heap.size + 1 + 1, 0, none⟩ (.iface 51 (.int .i64 11))) -> (n < 0 \/ (room : Int) < n) -> (w7.cell? ⟨w.heap.size + 1, 0, none⟩ = some (.int .i64 0) /\ w7.cell? ⟨w.heap.size + 1 + 1, 0, none⟩ = some (.iface 51 (.int .i64 11))) /\ zgV B sb pp room (zaY room S) w (.returned (.tuple #[.int .i64 0, .iface 51 (.int .i64 11)])) w7 := fun w7 he hc => by
     subst he; have k1 := HV7.out (w.heap.size + 1); have k2 := HV7.out (w.heap.size + 1 + 1); rw [if_pos rfl] at k1; rw [if_neg (by omega), if_pos rfl] at k2; have c1 := zab _ _ 0 _ _ _ k1; have c2 := zab _ _ 0 _ _ _ k2; simp only [zLa, zLb] at c1 c2; exact ⟨⟨c1, c2⟩, hbadfin _ (fun b hb => by rw [HV7.out b, if_neg (by omega), if_neg (by omega)]) (by rw [hz7]; exact Nat.le_refl _) ho7.1 ho7.2.1 ho7.2.2 hc⟩
    have HB7 := hid hb7; have HOK6 : Hid (¬ n < 0 -> ¬ (room : Int) < n -> zgV B sb pp room (zaY room S) w (.returned (.tuple #[.int .i64 n, .nilIface])) w6) := hid fun g1 g2 => by
     have h := HFIN.out n.toNat x X2 w6 (by unfold zaY; rw [<- HX.out]; exact if_neg (by omega)) (.inr ⟨by
      have hs := zee room S.l S.pos S.empty n x (by rw [show zbj room S.l S.pos S.empty = zeR room S from rfl, <- HX.out]) (by omega) (by omega); rw [show zbj room S.l S.pos S.empty = zeR room S from rfl, <- HX.out] at hs; exact Nat.le_of_eq hs.symm, rfl⟩) (fun b hb => hk6 b (by omega)) (by omega) ho6.1 ho6.2.1 ho6.2.2
     rw [HEV.out, Int.toNat_of_nonneg (by omega)] at h; exact h
    clear hb7 hw7x hz7 ho7 hbadfin hbad hk6 hz6 ho6 hna6 hea6 hpa6; by_cases c1 : n < 0
    . refine (zkq (w.heap.size + 1) w.heap.size (w.heap.size + 1 + 1) pp room n _ w6 qn qe qp rn re hnee c1).mono ?_
      rintro r' u' w7 ⟨rfl, rfl, hw7⟩; obtain ⟨⟨t1, t2⟩, t3⟩ := HB7.out w7 hw7 (.inl c1); clear hw7; simp [Leaves, settle, results, Tryz.results69, go_sem, t1, t2]; exact t3
    by_cases c2 : (room : Int) < n
    . refine (ziM (w.heap.size + 1) w.heap.size (w.heap.size + 1 + 1) pp room n _ w6 qn qe qp rn re hnee c1 c2).mono ?_
      rintro r' u' w7 ⟨rfl, rfl, hw7⟩; obtain ⟨⟨t1, t2⟩, t3⟩ := HB7.out w7 hw7 (.inr c2); clear hw7; simp [Leaves, settle, results, Tryz.results69, go_sem, t1, t2]; exact t3
    refine (zjg (w.heap.size + 1) w.heap.size (w.heap.size + 1 + 1) pp room n w6 qn qp (by omega) (by omega)).mono ?_
    rintro r' u' w7 ⟨rfl, rfl, rfl⟩; simp [Leaves, settle, results, Tryz.results69, go_sem, qn, qe]; exact HOK6.out c1 c2
  . have hS0 := And.intro z1 z0
    refine zak 6 hS0 ?_; (try simp only [Act.put, lA, lB, lC]); refine zak 7 hS0 ?_; (try simp only [Act.put, lA, lB, lC]); clear z1 z0; obtain ⟨z1, z0⟩ := hS0; have hs8 : ∀ v : Value, (w4.setCell ⟨w.heap.size + 1, 0, none⟩ v).cell? ⟨bs, 1, none⟩ = some (.iface 44 (zaj sb)) /\ (w4.setCell ⟨w.heap.size + 1, 0, none⟩ v).cell? ⟨w.heap.size, 0, none⟩ = some (.slice (some ⟨pp, 0, none⟩) room room) := fun v =>
     ⟨(World.cell?_of_block (zaf _ _ _ _ (by show bs ≠ w.heap.size + 1; omega))).trans z1, (World.cell?_of_block (zaf _ _ _ _ (by show w.heap.size ≠ w.heap.size + 1; omega))).trans z0⟩
    refine zaq 8 (by rfl) (by kernel_rfl) (fun K hK => ?_); go_simp; refine hK.out _ _ (fun _ => hs8 _) ?_; clear hK K; (try simp only [Act.put, lA, lB, lC]); refine zaq 9 (by rfl) (by kernel_rfl) (fun K hK => ?_); go_simp; refine hK.out _ _ (fun h => absurd rfl h) ?_; clear hK K; (try simp only [Act.put, lA, lB, lC]); refine zaP (by kernel_rfl) ?_; refine NoPanic.normal ?_; go_wp2_with (fail); clear z1 z0 hs8 na0 ea0 fna fea
    have hna6 := (zaf (w4.setCell ⟨w.heap.size + 1, 0, none⟩ (.int .i64 n)) ⟨w.heap.size + 1 + 1, 0, none⟩ (.iface 51 (.int .i64 k)) (w.heap.size + 1) (by show w.heap.size + 1 ≠ w.heap.size + 1 + 1; omega)).trans (zac w4 (w.heap.size + 1) 0 (.int .i64 n) _ _ _ H4.out.2.2.2.2.1); have hea6 := zac (w4.setCell ⟨w.heap.size + 1, 0, none⟩ (.int .i64 n)) (w.heap.size + 1 + 1) 0 (.iface 51 (.int .i64 k)) _ _ _ ((zaf w4 ⟨w.heap.size + 1, 0, none⟩ (.int .i64 n) (w.heap.size + 1 + 1) (by show w.heap.size + 1 + 1 ≠ w.heap.size + 1; omega)).trans H4.out.2.2.2.2.2)
    have hk6 : ∀ b, b < w.heap.size + 1 -> ((w4.setCell ⟨w.heap.size + 1, 0, none⟩ (.int .i64 n)).setCell ⟨w.heap.size + 1 + 1, 0, none⟩ (.iface 51 (.int .i64 k))).heap[b]? = w4.heap[b]? := fun b hb => by
     rw [zaf _ _ _ _ (by show b ≠ w.heap.size + 1 + 1; omega), zaf _ _ _ _ (by show b ≠ w.heap.size + 1; omega)]
    have hz6 : ((w4.setCell ⟨w.heap.size + 1, 0, none⟩ (.int .i64 n)).setCell ⟨w.heap.size + 1 + 1, 0, none⟩ (.iface 51 (.int .i64 k))).heap.size = w4.heap.size := by simp
    have ho6 : ((w4.setCell ⟨w.heap.size + 1, 0, none⟩ (.int .i64 n)).setCell ⟨w.heap.size + 1 + 1, 0, none⟩ (.iface 51 (.int .i64 k))).os = w4.os /\ ((w4.setCell ⟨w.heap.size + 1, 0, none⟩ (.int .i64 n)).setCell ⟨w.heap.size + 1 + 1, 0, none⟩ (.iface 51 (.int .i64 k))).tape = w4.tape /\ ((w4.setCell ⟨w.heap.size + 1, 0, none⟩ (.int .i64 n)).setCell ⟨w.heap.size + 1 + 1, 0, none⟩ (.iface 51 (.int .i64 k))).output = w4.output := ⟨rfl, rfl, rfl⟩
    generalize (w4.setCell ⟨w.heap.size + 1, 0, none⟩ (.int .i64 n)).setCell ⟨w.heap.size + 1 + 1, 0, none⟩ (.iface 51 (.int .i64 k)) = w6 at hna6 hea6 hk6 hz6 ho6 ⊢; have hpa6 := (hk6 w.heap.size (by omega)).trans H4.out.2.2.2.1; have qn := zab _ _ 0 _ _ _ hna6; have qe := zab _ _ 0 _ _ _ hea6; have qp := zab _ _ 0 _ _ _ hpa6; simp only [List.setIfInBounds_toArray, List.set_cons_zero, zLa, zLb] at qn qe qp; have rn := zae _ _ 0 _ _ hna6; have re := zae _ _ 0 _ _ hea6; have hnee : w.heap.size + 1 ≠ w.heap.size + 1 + 1 := by omega
    have hbad : n < 0 \/ (room : Int) < n -> zaY room S = (0, 11, ⟨#[]⟩, X3) := fun h => by unfold zaY; rw [<- HX.out]; exact if_pos h
    have hbadfin : ∀ w7, (∀ b, b < w.heap.size -> w7.heap[b]? = w6.heap[b]?) -> w6.heap.size <= w7.heap.size -> w7.os = w6.os -> w7.tape = w6.tape -> w7.output = w6.output -> (n < 0 \/ (room : Int) < n) -> zgV B sb pp room (zaY room S) w (.returned (.tuple #[.int .i64 0, .iface 51 (.int .i64 11)])) w7 := fun w7 g1 g2 g3 g4 g5 g6 =>
     HFIN.out 0 11 ⟨#[]⟩ w7 (hbad g6) (.inl rfl) (fun b hb => (g1 b hb).trans (hk6 b (by omega))) (by omega) (g3.trans ho6.1) (g4.trans ho6.2.1) (g5.trans ho6.2.2)
    refine leaves_cons (f := 86) (args := #[.pointer (some ⟨w.heap.size + 1, 0, none⟩), .pointer (some ⟨w.heap.size, 0, none⟩), .pointer (some ⟨w.heap.size + 1 + 1, 0, none⟩)]) (by simp) (by simp [go_sem]) ?_; have hw7x : ∀ (b : Nat), ((w6.setCell ⟨w.heap.size + 1, 0, none⟩ (.int .i64 0)).setCell ⟨w.heap.size + 1 + 1, 0, none⟩ (.iface 51 (.int .i64 11))).heap[b]? = if b = w.heap.size + 1 then some (.cells #[.int .i64 0] 3 (0, 0)) else if b = w.heap.size + 1 + 1 then some (.cells #[.iface 51 (.int .i64 11)] 34 (0, 0)) else w6.heap[b]? := fun b => by
     by_cases b1 : b = w.heap.size + 1
     . rw [if_pos b1, b1, zaf _ _ _ _ (by show w.heap.size + 1 ≠ w.heap.size + 1 + 1; omega)]
       exact zac _ _ 0 _ _ _ _ hna6
     rw [if_neg b1]
     by_cases b2 : b = w.heap.size + 1 + 1
     . rw [if_pos b2, b2]
       exact zac _ _ 0 _ _ _ _ ((zaf _ _ _ _ (by show w.heap.size + 1 + 1 ≠ w.heap.size + 1; omega)).trans hea6)
     rw [if_neg b2, zaf _ _ _ _ b2, zaf _ _ _ _ b1]
    have HV7 := hid hw7x; have hz7 : ((w6.setCell ⟨w.heap.size + 1, 0, none⟩ (.int .i64 0)).setCell ⟨w.heap.size + 1 + 1, 0, none⟩ (.iface 51 (.int .i64 11))).heap.size = w6.heap.size := by simp
    have ho7 : ((w6.setCell ⟨w.heap.size + 1, 0, none⟩ (.int .i64 0)).setCell ⟨w.heap.size + 1 + 1, 0, none⟩ (.iface 51 (.int .i64 11))).os = w6.os /\ ((w6.setCell ⟨w.heap.size + 1, 0, none⟩ (.int .i64 0)).setCell ⟨w.heap.size + 1 + 1, 0, none⟩ (.iface 51 (.int .i64 11))).tape = w6.tape /\ ((w6.setCell ⟨w.heap.size + 1, 0, none⟩ (.int .i64 0)).setCell ⟨w.heap.size + 1 + 1, 0, none⟩ (.iface 51 (.int .i64 11))).output = w6.output := ⟨rfl, rfl, rfl⟩
    have hb7 : ∀ w7, w7 = ((w6.setCell ⟨w.heap.size + 1, 0, none⟩ (.int .i64 0)).setCell ⟨w.heap.size + 1 + 1, 0, none⟩ (.iface 51 (.int .i64 11))) -> (n < 0 \/ (room : Int) < n) -> (w7.cell? ⟨w.heap.size + 1, 0, none⟩ = some (.int .i64 0) /\ w7.cell? ⟨w.heap.size + 1 + 1, 0, none⟩ = some (.iface 51 (.int .i64 11))) /\ zgV B sb pp room (zaY room S) w (.returned (.tuple #[.int .i64 0, .iface 51 (.int .i64 11)])) w7 := fun w7 he hc => by
     subst he; have k1 := HV7.out (w.heap.size + 1); have k2 := HV7.out (w.heap.size + 1 + 1); rw [if_pos rfl] at k1; rw [if_neg (by omega), if_pos rfl] at k2; have c1 := zab _ _ 0 _ _ _ k1; have c2 := zab _ _ 0 _ _ _ k2; simp only [zLa, zLb] at c1 c2; exact ⟨⟨c1, c2⟩, hbadfin _ (fun b hb => by rw [HV7.out b, if_neg (by omega), if_neg (by omega)]) (by rw [hz7]; exact Nat.le_refl _) ho7.1 ho7.2.1 ho7.2.2 hc⟩
    have HB7 := hid hb7; have HOK6 : Hid (¬ n < 0 -> ¬ (room : Int) < n -> zgV B sb pp room (zaY room S) w (.returned (.tuple #[.int .i64 n, (.iface 51 (.int .i64 k))])) w6) := hid fun g1 g2 => by
     have h := HFIN.out n.toNat x X2 w6 (by unfold zaY; rw [<- HX.out]; exact if_neg (by omega)) (.inr ⟨by
      have hs := zee room S.l S.pos S.empty n x (by rw [show zbj room S.l S.pos S.empty = zeR room S from rfl, <- HX.out]) (by omega) (by omega); rw [show zbj room S.l S.pos S.empty = zeR room S from rfl, <- HX.out] at hs; exact Nat.le_of_eq hs.symm, rfl⟩) (fun b hb => hk6 b (by omega)) (by omega) ho6.1 ho6.2.1 ho6.2.2
     rw [HEV.out, Int.toNat_of_nonneg (by omega)] at h; exact h
    clear hb7 hw7x hz7 ho7 hbadfin hbad hk6 hz6 ho6 hna6 hea6 hpa6; by_cases c1 : n < 0
    . refine (zkq (w.heap.size + 1) w.heap.size (w.heap.size + 1 + 1) pp room n _ w6 qn qe qp rn re hnee c1).mono ?_
      rintro r' u' w7 ⟨rfl, rfl, hw7⟩; obtain ⟨⟨t1, t2⟩, t3⟩ := HB7.out w7 hw7 (.inl c1); clear hw7; simp [Leaves, settle, results, Tryz.results69, go_sem, t1, t2]; exact t3
    . by_cases c2 : (room : Int) < n
      . refine (ziM (w.heap.size + 1) w.heap.size (w.heap.size + 1 + 1) pp room n _ w6 qn qe qp rn re hnee c1 c2).mono ?_
        rintro r' u' w7 ⟨rfl, rfl, hw7⟩; obtain ⟨⟨t1, t2⟩, t3⟩ := HB7.out w7 hw7 (.inr c2); clear hw7; simp [Leaves, settle, results, Tryz.results69, go_sem, t1, t2]; exact t3
      . refine (zjg (w.heap.size + 1) w.heap.size (w.heap.size + 1 + 1) pp room n w6 qn qp (by omega) (by omega)).mono ?_
        rintro r' u' w7 ⟨rfl, rfl, rfl⟩; simp [Leaves, settle, results, Tryz.results69, go_sem, qn, qe]; exact HOK6.out c1 c2
 | pan =>
  obtain ⟨ds, hds⟩ : ∃ ds : List Deferred, ds = [{ target := .fn (Fn.func 86) #[.pointer (some ⟨w.heap.size + 1, 0, none⟩), .pointer (some ⟨w.heap.size, 0, none⟩), .pointer (some ⟨w.heap.size + 1 + 1, 0, none⟩)], args := #[] }] := ⟨_, rfl⟩; have HDS := hid hds; clear hds; refine zg0 (fun c w' => c = [{ v := .iface 9 (.string zfV), recovered := false }] /\ zd5 B w' sb X3 /\ (∃ arr, w'.heap[pp]? = some (.cells arr 5 (0, 0)) /\ arr.size = room) /\ Chg sb pp w3 w') (OnInv (w.heap.size + 1) (w.heap.size + 1 + 1) ds) (fun c a w4 h1 h2 => ?_) ?_
  . simp only [Exit.then]
    obtain ⟨rfl, hsrc4, ⟨arr4, j1, j2⟩, hch4⟩ := h1; obtain ⟨i4, i5, i6⟩ := h2; show Leaves Tryz.prog Tryz.f69 a.tmps (zgV B sb pp room (zaY room S) w) a.defers (.panicking _) w4; rw [i6, HDS.out]; have lsb : sb < B := by obtain ⟨_, _, _, _, _, _, _, h, _⟩ := HSC.out.2.1; exact h
    have lb3 : w.heap.size + 1 + 1 < w3.heap.size := zaa HW.out.2.2.2; have hpa4 := (hch4.keep w.heap.size (by omega) (by omega) (by omega)).trans HW.out.2.1; have hna4 := (hch4.keep (w.heap.size + 1) (by omega) (by omega) (by omega)).trans HW.out.2.2.1; have hea4 := (hch4.keep (w.heap.size + 1 + 1) (by omega) (by omega) (by omega)).trans HW.out.2.2.2; have qn := zab _ _ 0 _ _ _ hna4; have qe := zab _ _ 0 _ _ _ hea4; have qp := zab _ _ 0 _ _ _ hpa4; simp only [zLa, zLb] at qn qe qp; have rn := zae _ _ 0 _ _ hna4
    have re := zae _ _ 0 _ _ hea4; refine leaves_cons (f := 86) (args := #[.pointer (some ⟨w.heap.size + 1, 0, none⟩), .pointer (some ⟨w.heap.size, 0, none⟩), .pointer (some ⟨w.heap.size + 1 + 1, 0, none⟩)]) (by simp) (by simp [go_sem]) ?_; refine (zkL (w.heap.size + 1) w.heap.size (w.heap.size + 1 + 1) pp room 0 _ w4 qn qe qp rn re (by omega)).mono ?_; rintro r' u' w7 ⟨rfl, rfl, hw7⟩; have k1 : w7.heap[w.heap.size + 1]? = some (.cells #[.int .i64 0] 3 (0, 0)) := by
     rw [hw7, zaf _ _ _ _ (by show w.heap.size + 1 ≠ w.heap.size + 1 + 1; omega)]; exact zac _ _ 0 _ _ _ _ hna4
    have k2 : w7.heap[w.heap.size + 1 + 1]? = some (.cells #[.iface 51 (.int .i64 11)] 34 (0, 0)) := by
     rw [hw7]; exact zac _ _ 0 _ _ _ _ ((zaf _ _ _ _ (by show w.heap.size + 1 + 1 ≠ w.heap.size + 1; omega)).trans hea4)
    have k3 : ∀ b, b < w.heap.size -> w7.heap[b]? = w4.heap[b]? := fun b hb => by
     rw [hw7, zaf _ _ _ _ (by show b ≠ w.heap.size + 1 + 1; omega), zaf _ _ _ _ (by show b ≠ w.heap.size + 1; omega)]
    have k4 : w7.heap.size = w4.heap.size /\ w7.os = w4.os /\ w7.tape = w4.tape /\ w7.output = w4.output := by rw [hw7]; exact ⟨by simp, rfl, rfl, rfl⟩
    have t1 := zab _ _ 0 _ _ _ k1; have t2 := zab _ _ 0 _ _ _ k2; simp only [zLa, zLb] at t1 t2; clear hw7 k1 k2; have hfin : zgV B sb pp room (zaY room S) w (.returned (.tuple #[.int .i64 0, .iface 51 (.int .i64 11)])) w7 := by
     have hX : zaY room S = (0, 11, ⟨#[]⟩, X3) := by unfold zaY; rw [<- HX.out]
     rw [hX]; have c1 : Chg sb pp w w4 := (Chg.of_below HW.out.1).trans hch4; exact ⟨rfl, hsrc4.below (fun b hb => k3 b (by omega)), ⟨arr4, (k3 pp lpp).trans j1, j2, fun i hi => absurd (show i < 0 from hi) (by omega)⟩, ⟨k4.2.1.trans c1.os, k4.2.2.1.trans c1.tape, k4.2.2.2.trans c1.output, by rw [k4.1]; exact c1.size, fun b hb e1 e2 => (k3 b hb).trans (c1.keep b hb e1 e2)⟩⟩
    rw [Array.getD_eq_getD_getElem?] at i4 i5; simp [Leaves, settle, results, Tryz.results69, go_sem, i4, i5, t1, t2]; exact hfin
  refine zaA (fun w' => w'.cell? ⟨bs, 1, none⟩ = some (.iface 44 (zaj sb)) /\ w'.cell? ⟨w.heap.size, 0, none⟩ = some (.slice (some ⟨pp, 0, none⟩) room room)) 9 (by kernel_rfl) ⟨s1, p0⟩ (fun hS0 => ?_)
  refine zdx 0 (v := ?_) (by rfl) (by kernel_rfl) (by kernel_rfl) (by kernel_rfl) (by kernel_rfl) (fun _ _ _ h => ⟨h.1, zgS (d := 7) (by decide) (by decide) h.2⟩) (by rfl) ?_ hS0 ?_; rotate_left
  . intro w9 hS9
    (try dsimp only at hS9); go_simp; (try with_reducible rfl)
  (try simp only [Act.put, lA, lB, lC]); refine zdx 1 (v := ?_) (by rfl) (by kernel_rfl) (by kernel_rfl) (by kernel_rfl) (by kernel_rfl) (fun _ _ _ h => ⟨h.1, zgS (d := 8) (by decide) (by decide) h.2⟩) (by rfl) ?_ hS0 ?_; rotate_left
  . intro w9 hS9
    (try dsimp only at hS9); go_simp; (try with_reducible rfl)
  (try simp only [Act.put, lA, lB, lC]); refine zdx 2 (v := ?_) (by rfl) (by kernel_rfl) (by kernel_rfl) (by kernel_rfl) (by kernel_rfl) (fun _ _ _ h => ⟨h.1, zgS (d := 9) (by decide) (by decide) h.2⟩) (by rfl) ?_ hS0 ?_; rotate_left
  . intro w9 hS9
    (try dsimp only at hS9); go_simp; (try with_reducible rfl)
  (try simp only [Act.put, lA, lB, lC]); refine zdx 3 (v := ?_) (by rfl) (by kernel_rfl) (by kernel_rfl) (by kernel_rfl) (by kernel_rfl) (fun _ _ _ h => ⟨h.1, zgS (d := 10) (by decide) (by decide) h.2⟩) (by rfl) ?_ hS0 ?_; rotate_left
  . intro w9 hS9
    (try dsimp only at hS9); go_simp; (try with_reducible rfl)
  (try simp only [Act.put, lA, lB, lC]); refine zdx 4 (v := ?_) (by rfl) (by kernel_rfl) (by kernel_rfl) (by kernel_rfl) (by kernel_rfl) (fun _ _ _ h => ⟨h.1, zgS (d := 11) (by decide) (by decide) h.2⟩) (by rfl) ?_ hS0 ?_; rotate_left
  . intro w9 hS9
    (try dsimp only at hS9); go_simp; (try with_reducible rfl)
  (try simp only [Act.put, lA, lB, lC]); refine zaq 5 (by rfl) (by kernel_rfl) (fun K hK => ?_); go_simp; go_at_call 198; refine (HREAD.out).mono ?_; intro e w4 ho; obtain ⟨rfl, hsrc4, ⟨arr4, j1, j2, _⟩, hch4⟩ := ho; simp only [rdE]; exact ⟨⟨rfl, hsrc4, ⟨arr4, j1, j2⟩, ⟨hch4.os, hch4.tape, hch4.output, hch4.size, hch4.keep⟩⟩, ⟨rfl, rfl, HDS.out.symm⟩⟩
end
section
open Go.RowKit Go.Lib
def zdv (room : Nat) : Nat -> ByteArray -> Src -> ByteArray × Nat × Src
 | 0, buf, S => (buf, 12, S)
 | k + 1, buf, S =>
  if (zaY room S).2.1 ≠ 0 \/ 0 < (zaY room S).1 then (buf ++ (zaY room S).2.2.1.extract 0 (zaY room S).1, (zaY room S).2.1, (zaY room S).2.2.2)
  else zdv room k buf (zaY room S).2.2.2
def zir (C len : Nat) : Nat := min (C - len) (max 16 len)
def zbg (C : Nat) (buf : ByteArray) (S : Src) : ByteArray × Nat × Src := zdv (zir C buf.size) 8 buf S
structure ScSt (B : Nat) (w : World) (bs bt sb C : Nat) (buf : ByteArray) (why err : Nat) (at' line col : Int) (S : Src) (bv : Value) : Prop where
 sc : ScAt w bs bt (.iface 44 (zaj sb)) C bv (errV why) (errV err) at' line col
 buf : zdQ w bv buf
 src : zd5 B w sb S
 ok : zfx S
 bB : B <= bs
 own : ∀ g, bv.ownBlock = some g -> B <= g /\ g ≠ bs
structure Keep (bs sb : Nat) (bv bv' : Value) (w w' : World) : Prop where
 os : w'.os = w.os
 tape : w'.tape = w.tape
 output : w'.output = w.output
 size : w.heap.size <= w'.heap.size
 keep : ∀ b, b < w.heap.size -> b ≠ bs -> b ≠ sb -> bv.ownBlock ≠ some b -> w'.heap[b]? = w.heap[b]?
 new : ∀ g, bv'.ownBlock = some g -> bv.ownBlock = some g \/ w.heap.size <= g
theorem Keep.refl (bs sb : Nat) (bv : Value) (w : World) : Keep bs sb bv bv w w := ⟨rfl, rfl, rfl, Nat.le_refl _, fun _ _ _ _ _ => rfl, fun _ h => .inl h⟩
theorem Keep.trans {bs sb : Nat} {b1 b2 b3 : Value} {u v w : World} (h : Keep bs sb b1 b2 u v) (k : Keep bs sb b2 b3 v w) : Keep bs sb b1 b3 u w :=
 ⟨k.os.trans h.os, k.tape.trans h.tape, k.output.trans h.output, Nat.le_trans h.size k.size,
  fun b hb h1 h2 h3 => (k.keep b (zLd hb h.size) h1 h2 (fun e => by rcases h.new b e with e | e; exact h3 e; omega)).trans (h.keep b hb h1 h2 h3),
  fun g hg => by
   rcases k.new g hg with e | e
   . exact h.new g e
   exact .inr (Nat.le_trans h.size e)⟩
theorem Keep.of_below {bs sb : Nat} {bv : Value} {u v : World} (h : Below u.heap.size u v) : Keep bs sb bv bv u v := ⟨h.os, h.tape, h.output, h.size, fun b hb _ _ _ => h.block b hb, fun _ h => .inl h⟩
section
variable {B : Nat} {w w' : World} {bs bt sb C : Nat} {buf : ByteArray} {why err : Nat} {at' line col : Int} {S : Src} {bv : Value}
theorem ScSt.lt (h : ScSt B w bs bt sb C buf why err at' line col S bv) : sb < B /\ B <= w.heap.size /\ bs < w.heap.size /\ bs ≠ sb := by
 obtain ⟨_, _, _, _, _, _, _, h1, _⟩ := h.src; have := h.bB; have := zaa h.sc; omega
theorem ScSt.below (h : ScSt B w bs bt sb C buf why err at' line col S bv) (hb : Below w.heap.size w w') : ScSt B w' bs bt sb C buf why err at' line col S bv :=
 ⟨(hb.block bs (zaa h.sc)).trans h.sc, h.buf.kept (fun g hg => hb.block g (h.buf.lt g hg)), h.src.below (fun b hb' => hb.block b (zLd hb' h.lt.2.1)), h.ok, h.bB, h.own⟩
theorem ScSt.read (h : ScSt B w bs bt sb C buf why err at' line col S bv) {pp : Nat} {S' : Src} (hp : B <= pp) (hpb : pp ≠ bs) (hpv : bv.ownBlock ≠ some pp) (hs : zd5 B w' sb S') (hok : zfx S') (hc : Chg sb pp w w') : ScSt B w' bs bt sb C buf why err at' line col S' bv :=
 ⟨(hc.keep bs h.lt.2.2.1 h.lt.2.2.2 (Ne.symm hpb)).trans h.sc, h.buf.kept (fun g hg => hc.keep g (h.buf.lt g hg) (by have := (h.own g hg).1; have := h.lt.1; omega) (fun e => hpv (by rw [hg, e]))), hs, hok, h.bB, h.own⟩
theorem ScSt.store (h : ScSt B w bs bt sb C buf why err at' line col S bv) {bv' : Value} {buf' : ByteArray} (hb : zdQ w' bv' buf') (hg : ∀ b, b < w.heap.size -> bv.ownBlock ≠ some b -> w'.heap[b]? = w.heap[b]?) (hn : ∀ g, bv'.ownBlock = some g -> bv.ownBlock = some g \/ w.heap.size <= g) :
 ScSt B (w'.setCell ⟨bs, 3, none⟩ bv') bs bt sb C buf' why err at' line col S bv' := by
 have hbs : bv.ownBlock ≠ some bs := fun e => (h.own bs e).2 rfl; have hsb : ∀ b, b < B -> bv.ownBlock ≠ some b := fun b hb e => by have := (h.own b e).1; omega
 have h1 := (hg bs h.lt.2.2.1 hbs).trans h.sc; have ho : ∀ g, bv'.ownBlock = some g -> B <= g /\ g ≠ bs := fun g hg' => by
  rcases hn g hg' with e | e
  . exact h.own g e
  have := h.lt; omega
 refine ⟨zac _ bs 3 _ _ _ _ h1, hb.kept (fun g hg' => zaf _ _ _ _ (ho g hg').2), h.src.below (fun b hb' => (zaf _ _ _ _ (by have := h.bB; show b ≠ bs; omega)).trans (hg b (zLd hb' h.lt.2.1) (hsb b hb'))), h.ok, h.bB, ho⟩
theorem ScSt.setWhy (h : ScSt B w bs bt sb C buf why err at' line col S bv) (y : Nat) : ScSt B (w.setCell ⟨bs, 4, none⟩ (errV y)) bs bt sb C buf y err at' line col S bv :=
 ⟨zac _ bs 4 _ _ _ _ h.sc, h.buf.kept (fun g hg => zaf _ _ _ _ (h.own g hg).2), h.src.below (fun b hb' => zaf _ _ _ _ (by have := h.bB; show b ≠ bs; omega)), h.ok, h.bB, h.own⟩
theorem ScSt.setErr (h : ScSt B w bs bt sb C buf why err at' line col S bv) (y : Nat) : ScSt B (w.setCell ⟨bs, 5, none⟩ (errV y)) bs bt sb C buf why y at' line col S bv :=
 ⟨zac _ bs 5 _ _ _ _ h.sc, h.buf.kept (fun g hg => zaf _ _ _ _ (h.own g hg).2), h.src.below (fun b hb' => zaf _ _ _ _ (by have := h.bB; show b ≠ bs; omega)), h.ok, h.bB, h.own⟩
end
theorem Keep.set {bs sb o : Nat} {bv : Value} {w : World} (v : Value) : Keep bs sb bv bv w (w.setCell ⟨bs, o, none⟩ v) := ⟨rfl, rfl, rfl, by simp, fun b _ h _ _ => zaf _ _ _ _ h, fun _ h => .inl h⟩
theorem zge {w : World} {ops : Array Oper} {o : Oper} {a : Act} {K : Act -> World -> Prop} {Q : Exit -> Act -> World -> Prop} {E : Prop} (hgd : o.guard = none) (s x : Operand)
 (ho : o.op = .call { callee := .builtin .append, args := #[s, x], argTypes := #[55, 55] }) (v : Value) (b t : ByteArray) (hs : a.eval s = v) (hB : zdQ w v b) (ad : Addr) (c : Nat) (hx : a.eval x = .slice (some ad) t.size c)
 (hnews : ∀ j, j < t.size -> w.cell? (ad.add j) = some (.int .u8 (byt t j))) (hb : b.size + t.size <= 1000000000)
 (h : ∀ v' w', zdQ w' v' (b ++ t) -> w.grownBy w' v.ownBlock -> (∀ g, v'.ownBlock = some g -> v.ownBlock = some g \/ w.heap.size <= g) -> K (a.put o.dst v') w') :
 if Region.wanted o (yielded ops a.tmps) = true then Oper.wp Tryz.prog o a w K Q else E := by
 have hw : Region.wanted o (yielded ops a.tmps) = true := by simp [Region.wanted, hgd]
 rw [if_pos hw]; obtain ⟨v', w', hr, h2, h3, h4⟩ := zg5 w o.type v b t hB ad c hnews hb; unfold Oper.wp execOp; simp only [ho, resolve, invoke, builtin, Sem.run_bind, Sem.run_pure, Result.andThen_ok, List.map_toArray, List.map_cons, List.map_nil, hs, hx, hr]; exact h v' w' h2 h3 h4
theorem zla (n : Nat) (hn : n <= 1000000) (w : World) : (Instr.makeSlice 55 (.int .i64 (n : Int)) (.int .i64 (n : Int))).run Tryz.prog w = .ok (.slice (some ⟨w.heap.size, 0, none⟩) n n) (w.alloc (.cells (madeCells #[.int .u8 0] n) 5)) := by
 obtain ⟨i, h1, h2, h3, h4⟩ := info_parts (P := Tryz.prog) (e := 5) (z := .int .u8 0) (size := 1) (bytes := 1) (by kernel_rfl); have h := run_makeSlice w 55 5 i (.int .u8 0) Tryz.underlying55 h1 h2 .i64 .i64 n n (by omega) (Int.le_refl _) (by rw [h3]; simp; omega) (by rw [h4]; omega) (by omega); rw [h, h3, Nat.mul_one, Int.toNat_natCast]; rfl
end
section
open Go.RowKit Go.Lib
theorem onceP_src (room : Nat) (S : Src) : (zaY room S).2.2.2 = (zeR room S).2.2 := by
 unfold zaY
 rcases zeR room S with ⟨X1, X2, X3⟩
 cases X1 with
 | ret n e => dsimp only; split <;> rfl
 | pan => rfl
theorem onceP_ok (room : Nat) (S : Src) (h : zfx S) : zfx (zaY room S).2.2.2 := by
 rw [onceP_src]; exact zkk room S.l S.pos S.empty h
theorem zfw (room : Nat) (S : Src) : (zaY room S).1 <= room /\ (zaY room S).1 <= (zaY room S).2.2.1.size := by
 have hs := zee room S.l S.pos S.empty; unfold zaY; rw [show zbj room S.l S.pos S.empty = zeR room S from rfl] at hs
 rcases hX : zeR room S with ⟨X1, X2, X3⟩
 rw [hX] at hs; cases X1 with
 | ret n e =>
  dsimp only; split
  . exact ⟨Nat.zero_le _, Nat.zero_le _⟩
  . have := hs n e rfl (by omega) (by omega)
    dsimp only at this ⊢; omega
 | pan => exact ⟨Nat.zero_le _, Nat.zero_le _⟩
theorem app_empty (b t : ByteArray) (h : t.size = 0) : b ++ t = b := by
 have : t.data = #[] := Array.eq_empty_of_size_eq_zero h; apply ByteArray.ext; rw [ByteArray.data_append, this, Array.append_empty]
theorem Keep.chg {bs sb pp : Nat} {b1 b2 : Value} {u v w : World} (h : Keep bs sb b1 b2 u v) (hc : Chg sb pp v w) (hpp : u.heap.size <= pp) : Keep bs sb b1 b2 u w :=
 ⟨hc.os.trans h.os, hc.tape.trans h.tape, hc.output.trans h.output, Nat.le_trans h.size hc.size, fun b hb h1 h2 h3 => (hc.keep b (zLd hb h.size) h2 (by omega)).trans (h.keep b hb h1 h2 h3), h.new⟩
theorem Keep.grow {bs sb : Nat} {b1 b2 b3 : Value} {u v w : World} (h : Keep bs sb b1 b2 u v) (hg : v.grownBy w b2.ownBlock) (hn : ∀ g, b3.ownBlock = some g -> b2.ownBlock = some g \/ v.heap.size <= g) : Keep bs sb b1 b3 u w :=
 h.trans ⟨hg.os, hg.tape, hg.output, hg.size, fun b hb _ _ h3 => hg.block b hb (fun e => h3 e.symm), hn⟩
def MoreO (B : Nat) (bs bt sb C : Nat) (R : ByteArray × Nat × Src) (err : Nat) (at' line col : Int) (bv : Value) (w : World) (e : Ending) (w' : World) : Prop :=
 e = .returned (.tuple #[]) /\ ∃ bv', ScSt B w' bs bt sb C R.1 R.2.1 err at' line col R.2.2 bv' /\ Keep bs sb bv bv' w w'
theorem zkd (B : Nat) (w : World) (bs bt sb C : Nat) (buf : ByteArray) (why err : Nat) (at' line col : Int) (S : Src) (bv : Value) (h : ScSt B w bs bt sb C buf why err at' line col S bv) (hC : buf.size < C) (hC2 : C <= 900000) :
 Calls Tryz.prog 39 #[zaj bs] w (MoreO B bs bt sb C (zbg C buf S) err at' line col bv w) := by
 obtain ⟨room, hroom⟩ : ∃ r, r = zir C buf.size := ⟨_, rfl⟩; have hri : min ((C : Int) - (buf.size : Int)) (max 16 (buf.size : Int)) = (room : Int) := by rw [hroom]; unfold zir; omega
 have hr1 : 1 <= room /\ room < 1000000 := by rw [hroom]; unfold zir; omega
 obtain ⟨ao, cap, hbv⟩ : ∃ ao cap, bv = .slice ao buf.size cap := by
  rcases h.buf with ⟨e, h0⟩ | ⟨g, off, cap, cells, e, _⟩
  . exact ⟨none, 0, by rw [e, h0]⟩
  exact ⟨_, cap, e⟩
 subst hbv; have H := hid h; have HR := hid hroom; have c2 := zab _ _ 2 _ _ _ h.sc; have c3 := zab _ _ 3 _ _ _ h.sc; simp only [zLa, zLb, zLc] at c2 c3; have lbs := h.lt.2.2.1; clear h hroom; go_enter Tryz.func39, Tryz.ntmps39; go_upto_region 0 with (fail)
 go_quiet (fail); go_upto_region 1 with (fail)
 have hq : ScSt B (w.drewN nq) bs bt sb C buf why err at' line col S (.slice ao buf.size cap) := H.out.below ⟨rfl, rfl, rfl, Nat.le_refl _, fun _ _ => rfl⟩; have hkq : Keep bs sb (.slice ao buf.size cap) (.slice ao buf.size cap) w (w.drewN nq) := Keep.of_below ⟨rfl, rfl, rfl, Nat.le_refl _, fun _ _ => rfl⟩; have hzq : (w.drewN nq).heap.size = w.heap.size := rfl; generalize w.drewN nq = wq at hq hkq hzq ⊢; have hmb := zla room (by omega) wq; have hba : Below wq.heap.size wq (wq.alloc (.cells (madeCells #[.int .u8 0] room) 5)) := (Below.refl _ _).alloc (Nat.le_refl _) _
 have hwa := hq.below hba; have hka := hkq.trans (Keep.of_below hba); have hpa : (wq.alloc (.cells (madeCells #[.int .u8 0] room) 5)).heap[wq.heap.size]? = some (.cells (madeCells #[.int .u8 0] room) 5 (0, 0)) := zaB _ _ _ rfl; have hbvl : ∀ g, (Value.slice ao buf.size cap).ownBlock = some g -> g < wq.heap.size := hq.buf.lt; obtain ⟨pp, hpp⟩ : ∃ pp, pp = wq.heap.size := ⟨_, rfl⟩; have HPP := hid (And.intro hpp hzq); have hppB : B <= pp := by have := hq.lt; omega
 have hppb : pp ≠ bs := by have := hq.lt; omega
 have hppv : (Value.slice ao buf.size cap).ownBlock ≠ some pp := fun e => by have := hbvl pp e; omega
 clear hzq hpp; go_upto_region 2 with (fail)
 have hpp := HPP.out.1; rw [<- hpp] at hpa ⊢; generalize wq.alloc (.cells (madeCells #[.int .u8 0] room) 5) = wa at hwa hka hpa ⊢; have HA := hid (And.intro hwa (And.intro hka hpa)); clear hq hkq hmb hba hwa hka hpa hbvl hpp; go_wp2_with (fail)
 go_loopg [25] 8 (fun gh s25 wr => ∃ (i : Nat) (why2 : Nat) (S2 : Src) (ao2 : Option Addr) (cap2 : Nat) (arr : Array Value), i + gh = 8 /\ s25 = .int .i64 i /\ ScSt B wr bs bt sb C buf why2 err at' line col S2 (.slice ao2 buf.size cap2) /\ Keep bs sb (.slice ao buf.size cap) (.slice ao2 buf.size cap2) w wr /\ wr.heap[pp]? = some (.cells arr 5 (0, 0)) /\ arr.size = room /\ (Value.slice ao2 buf.size cap2).ownBlock ≠ some pp /\ zdv room (8 - i) buf S2 = zdv room 8 buf S)
 case atStart => exact ⟨0, why, S, ao, cap, _, by omega, rfl, HA.out.1, HA.out.2.1, HA.out.2.2, by simp [size_madeCells], hppv, rfl⟩
 case round =>
  obtain ⟨i, why2, S2, ao2, cap2, arr, hig, rfl, hst, hkp, hpr, hsz, hnp, hml⟩ := hrel; have HS := hid (And.intro hst (And.intro hkp (And.intro hpr (And.intro hsz hnp)))); have HIG := hid (And.intro hig hml); by_cases hlt : i < 8
  . have hz : (i : Int) < 8 := by omega
    have hwrapi : IntKind.i64.wrap ((i : Int) + 1) = (i : Int) + 1 := IntWalk.i64_in _ (by omega); have honce := once_any S2 B wr bs bt sb pp room C arr (.slice ao2 buf.size cap2) (errV why2) (errV err) at' line col hst.sc hst.src hst.ok ⟨hst.lt.2.2.2, Ne.symm hppb⟩ hst.lt.2.1 hppB hpr hsz (by omega); have HON := hid honce; obtain ⟨m, hm⟩ : ∃ m, m = (zaY room S2).1 := ⟨_, rfl⟩; obtain ⟨y, hy⟩ : ∃ y, y = (zaY room S2).2.1 := ⟨_, rfl⟩; obtain ⟨t, ht⟩ : ∃ t, t = (zaY room S2).2.2.1.extract 0 m := ⟨_, rfl⟩; obtain ⟨S3, hS3⟩ : ∃ S3, S3 = (zaY room S2).2.2.2 := ⟨_, rfl⟩
    have hmr := zfw room S2; rw [<- hm] at hmr; have hts : t.size = m := by rw [ht]; exact zbk _ _ hmr.2
    have hmz : (m : Int) <= (room : Int) := by omega
    have hmo : zdv room (8 - i) buf S2 = if y ≠ 0 \/ 0 < m then (buf ++ t, y, S3) else zdv room (8 - (i + 1)) buf S3 := by
     rw [show 8 - i = (8 - (i + 1)) + 1 by omega, zdv, <- hm, <- hy, <- ht, <- hS3]
    have HMO := hid hmo; have HE := hid (And.intro hm (And.intro hy (And.intro ht (And.intro hS3 (And.intro hts hmr))))); have hbm : buf.size + m <= 1000000000 := by omega
    obtain ⟨ev, hev, hform⟩ : ∃ ev, errV y = ev /\ ((y = 0 /\ ev = .nilIface) \/ (y ≠ 0 /\ ev = .iface 51 (.int .i64 y))) := ⟨_, rfl, by
     by_cases h0 : y = 0
     . exact .inl ⟨h0, by rw [h0]; rfl⟩
     exact .inr ⟨h0, by unfold errV; rw [if_neg h0]⟩⟩
    have HEV := hid hev; clear honce hst hkp hpr hsz hnp hml hig ht hS3 hts hmr hm hy hmo hev; go_upto_region 5 with (first | (go_at_call 69; refine (HON.out).mono ?_; rintro e w4 ⟨rfl, hsrc4, harr4, hch4⟩; rw [<- HE.out.1, <- HE.out.2.1, HEV.out]; have H4r := hid (And.intro hsrc4 (And.intro harr4 hch4)); clear hsrc4 harr4 hch4))
    have hst4 := HS.out.1.read hppB hppb HS.out.2.2.2.2 (S' := S3) (by rw [HE.out.2.2.2.1]; exact H4r.out.1) (by rw [HE.out.2.2.2.1]; exact onceP_ok room S2 HS.out.1.ok) H4r.out.2.2; have hkp4 := HS.out.2.1.chg H4r.out.2.2 (by have := HPP.out; omega); obtain ⟨arr4, j1, j2, j3⟩ := H4r.out.2.1; have hnw4 : ∀ j, j < t.size -> w4.cell? ((⟨pp, 0, none⟩ : Addr).add j) = some (.int .u8 (byt t j)) := fun j hj => by
     have hts := HE.out.2.2.2.2.1; have hmr := HE.out.2.2.2.2.2; rw [zkv, zab _ _ j _ _ _ j1, j3 j (by rw [<- HE.out.1]; omega), HE.out.2.2.1, zbn _ _ j hmr.2 (by omega)]
    have H4 := hid (And.intro hst4 (And.intro hkp4 (And.intro (And.intro j1 j2) hnw4))); have v3 := zab _ _ 3 _ _ _ hst4.sc; simp only [zLa, zLb, zLc] at v3; clear hst4 hkp4 j1 j2 j3 hnw4; refine wp_region_noPanic ?_; refine zaA (fun w' => w'.cell? ⟨bs, 3, none⟩ = some (.slice ao2 buf.size cap2)) 12 (by kernel_rfl) v3 (fun hS0 => ?_); refine zak 0 hS0 ?_; (try simp only [Act.put, lA, lB, lC]); refine zak 1 hS0 ?_; (try simp only [Act.put, lA, lB, lC]); refine zak 2 hS0 ?_; (try simp only [Act.put, lA, lB, lC]); refine zak 3 hS0 ?_; (try simp only [Act.put, lA, lB, lC]); refine zak 4 hS0 ?_; (try simp only [Act.put, lA, lB, lC]); refine zak 5 hS0 ?_; (try simp only [Act.put, lA, lB, lC]); refine zak 6 hS0 ?_; (try simp only [Act.put, lA, lB, lC]); refine zak 7 hS0 ?_; (try simp only [Act.put, lA, lB, lC]); refine zak 8 hS0 ?_; (try simp only [Act.put, lA, lB, lC]); clear hS0; refine zaq 9 (by rfl) (by kernel_rfl) (fun K hK => ?_); refine zge (by rfl) _ _ (by rfl) (.slice ao2 buf.size cap2) buf t (by rfl) (by exact H4.out.1.buf) ⟨pp, 0, none⟩ m (by rw [<- HE.out.2.2.2.2.1]; rfl) (by intro j hj; exact H4.out.2.2.2 j hj) (by rw [HE.out.2.2.2.2.1]; exact hbm) ?_; intro v5 w5 hb5 hg5d hn5d; have hg5 : w4.grownBy w5 (Value.slice ao2 buf.size cap2).ownBlock := ⟨hg5d.os, hg5d.tape, hg5d.output, hg5d.size, hg5d.block⟩
    have hn5 : ∀ g, v5.ownBlock = some g -> (Value.slice ao2 buf.size cap2).ownBlock = some g \/ w4.heap.size <= g := hn5d; clear hg5d hn5d; obtain ⟨ao5, n5, cap5, rfl, hn5e⟩ : ∃ ao n cap, v5 = .slice ao n cap /\ n = (buf ++ t).size := by
     rcases hb5 with ⟨e, h0⟩ | ⟨g, off, cap, cells, e, _⟩
     . exact ⟨none, 0, 0, e, h0.symm⟩
     exact ⟨_, _, cap, e, rfl⟩
    have HN5 := hid hn5e; clear hn5e; have hst6 := H4.out.1.store hb5 (fun b hb hne => hg5.block b hb (fun e => hne e.symm)) hn5; have hkp6 := (H4.out.2.1.grow hg5 hn5).trans (Keep.set (bs := bs) (sb := sb) (o := 3) (w := w5) (.slice ao5 n5 cap5)); have hlp4 := zaa H4.out.2.2.1.1; have hp6 : (w5.setCell ⟨bs, 3, none⟩ (.slice ao5 n5 cap5)).heap[pp]? = some (.cells arr4 5 (0, 0)) := (zaf _ _ _ _ hppb).trans ((hg5.block pp hlp4 (fun e => HS.out.2.2.2.2 e.symm)).trans H4.out.2.2.1.1); have hnp6 : (Value.slice ao5 n5 cap5).ownBlock ≠ some pp := fun e => by
     rcases hn5 pp e with e' | e'
     . exact HS.out.2.2.2.2 e'
     omega
    have hbs5 := (hg5.block bs H4.out.1.lt.2.2.1 (fun e => (H4.out.1.own bs e.symm).2 rfl)).trans H4.out.1.sc; have v3' := zab _ _ 3 _ _ _ hbs5; simp only [zLa, zLb, zLc] at v3'; have fz3 := zae _ _ 3 _ _ hbs5; have lz3 := zaa hbs5; have H6 := hid (And.intro hst6 (And.intro hkp6 (And.intro hp6 hnp6))); clear hst6 hkp6 hp6 hnp6 hb5 hg5 hn5 hbs5; refine hK.out _ _ (fun _ => v3') ?_; clear hK K; (try simp only [Act.put, lA, lB, lC]); refine zaq 10 (by rfl) (by kernel_rfl) (fun K hK => ?_); go_simp
    refine hK.out _ _ (fun _ => v3') ?_; clear hK K; (try simp only [Act.put, lA, lB, lC]); refine zaq 11 (by rfl) (by kernel_rfl) (fun K hK => ?_); go_simp; refine hK.out _ _ (fun _ => v3') ?_; clear hK K; (try simp only [Act.put, lA, lB, lC]); refine zaq 12 (by rfl) (by kernel_rfl) (fun K hK => ?_); go_simp; refine hK.out _ _ (fun h => absurd rfl h) ?_; clear hK K; (try simp only [Act.put, lA, lB, lC]); refine zaP (by kernel_rfl) ?_; refine NoPanic.normal ?_; generalize w5.setCell ⟨bs, 3, none⟩ (.slice ao5 n5 cap5) = w6 at H6 ⊢; have hw7 := H6.out.1.setWhy y
    rw [HEV.out] at hw7; have hk7 := H6.out.2.1.trans (Keep.set (bs := bs) (sb := sb) (o := 4) (w := w6) ev); have hp7 : (w6.setCell ⟨bs, 4, none⟩ ev).heap[pp]? = some (.cells arr4 5 (0, 0)) := (zaf _ _ _ _ hppb).trans H6.out.2.2.1; have H7 := hid (And.intro hw7 (And.intro hk7 hp7)); have w4c := zab _ _ 4 _ _ _ H6.out.1.sc; simp only [zLa, zLb, zLc] at w4c; have fz4 := zae _ _ 4 _ _ H6.out.1.sc; have lz4 := zaa H6.out.1.sc; clear hw7 hk7 hp7 v3 v3' fz3 lz3 hlp4
    rcases hform with ⟨hy0, rfl⟩ | ⟨hy0, rfl⟩
    . by_cases hm0 : 0 < m
      . have hzm : (0 : Int) < (m : Int) := by omega
        go_wp2_with (fail); go_end0; refine ⟨rfl, _, ?_, H7.out.2.1⟩; have e : zbg C buf S = (buf ++ t, y, S3) := by
         unfold zbg; rw [<- HR.out, <- HIG.out.2, HMO.out, if_pos (.inr hm0)]
        rw [e]; exact H7.out.1
      have hzm : ¬ (0 : Int) < (m : Int) := by omega
      have hz0 : t.size = 0 := by rw [HE.out.2.2.2.2.1]; omega
      have hbt : buf ++ t = buf := app_empty _ _ hz0; have hn5e := HN5.out; rw [hbt] at hn5e; subst hn5e; have h7 := H7.out; rw [hbt] at h7; have H7b := hid h7; have H6n := hid H6.out.2.2.2; clear h7 hbt hz0; go_wp2_with (fail); go_roundg (8 - (i + 1))
      case rel =>
       have hml := HMO.out; rw [if_neg (by omega)] at hml; exact ⟨i + 1, y, S3, ao5, cap5, arr4, by omega, by go_num, H7b.out.1, H7b.out.2.1, H7b.out.2.2, H4.out.2.2.1.2, H6n.out, hml.symm.trans HIG.out.2⟩
      case measure => have := HIG.out.1; omega
    go_wp2_with (fail)
    go_end0; refine ⟨rfl, _, ?_, H7.out.2.1⟩; have e : zbg C buf S = (buf ++ t, y, S3) := by
     unfold zbg; rw [<- HR.out, <- HIG.out.2, HMO.out, if_pos (.inl hy0)]
    rw [e]; exact H7.out.1
  have hz : ¬ (i : Int) < 8 := by omega
  have w4c := zab _ _ 4 _ _ _ hst.sc; simp only [zLa, zLb, zLc] at w4c; have fz4 := zae _ _ 4 _ _ hst.sc; have lz4 := zaa hst.sc; clear hst hkp hpr hsz hnp hml; go_wp2_with (fail); go_end0; refine ⟨rfl, _, ?_, HS.out.2.1.trans (Keep.set (bs := bs) (sb := sb) (o := 4) (w := wr) (.iface 51 (.int .i64 12)))⟩; have e : zbg C buf S = (buf, 12, S2) := by
   unfold zbg; rw [<- HR.out, <- HIG.out.2, show 8 - i = 0 by omega]; rfl
  rw [e]; exact HS.out.1.setWhy 12
end
section
open Go.RowKit Go.Lib
def newScan (bt C : Nat) (rd : Value) : Obj := .cells #[zaj bt, rd, .int .i64 C, .slice none 0 0, .nilIface, .nilIface, .int .i64 0, .int .i64 1, .int .i64 1] 95
theorem new_any (bt C : Nat) (t : TypeId) (v : Value) (w : World) : Calls Tryz.prog 49 #[zaj bt, .iface t v, .int .i64 C] w fun e w' => e = .returned (zaj w.heap.size) /\ w' = w.alloc (newScan bt C (.iface t v)) := by
 go_enter Tryz.func49, Tryz.ntmps49; go_wp2; go_ret; exact ⟨rfl, rfl⟩
def ScanO (B bt sb C : Nat) (S : Src) (w : World) (e : Ending) (w' : World) : Prop :=
 ∃ bs xb, e = .returned (.tuple #[zaj xb, .nilIface]) /\ ScSt B w' bs bt sb C ⟨#[]⟩ 0 0 0 1 1 S (.slice none 0 0) /\ w'.heap[xb]? = some (.cells #[zaj bs] 62 (0, 0)) /\ w.heap.size <= bs /\ bs < xb /\ Below w.heap.size w w'
theorem zg6 (B cb bt sb C : Nat) (S : Src) (w : World) (hc : w.heap[cb]? = some (.cells #[zaj bt] 70 (0, 0))) (hS : zd5 B w sb S) (hok : zfx S) (hB : B <= w.heap.size) (h4 : 4 <= C) (hm : C <= 100000) :
 Calls Tryz.prog 30 #[zaj cb, .iface 44 (zaj sb), .int .i64 C] w (ScanO B bt sb C S w) := by
 have c0 := zab _ _ 0 _ _ _ hc; simp only [zLa, zLb] at c0; have lc := zaa hc; have HS := hid (And.intro hS hok); have h4' : ¬ (C : Int) < 4 := by omega
 have hm' : (C : Int) <= 100000 := by omega
 clear hc hS hok; go_enter Tryz.func30, Tryz.ntmps30; go_wp2_with (first | (go_at_call 49; refine (new_any bt C _ _ _).mono ?_; rintro e w1 ⟨rfl, hw1⟩; have HW := hid hw1; clear hw1)); refine bodyPost_ret (v := .tuple #[zaj w1.heap.size, .nilIface]) (by simp [results, Tryz.results30, go_sem]) rfl ?_; have hw := HW.out; have hb1 : Below w.heap.size w w1 := by rw [hw]; exact (Below.refl _ w).alloc (Nat.le_refl _) _
 have hs1 : w1.heap[w.heap.size]? = some (newScan bt C (.iface 44 (zaj sb))) := by rw [hw]; exact zaB _ _ _ rfl
 have hz : w1.heap.size = w.heap.size + 1 := by rw [hw]; simp
 have hb2 : Below w1.heap.size w1 (w1.alloc (.cells #[zaj w.heap.size] 62)) := (Below.refl _ _).alloc (Nat.le_refl _) _; have hst : ScSt B w1 w.heap.size bt sb C ⟨#[]⟩ 0 0 0 1 1 S (.slice none 0 0) :=
  ⟨hs1, .inl ⟨rfl, rfl⟩, HS.out.1.below (fun b hb => hb1.block b (by omega)), HS.out.2, hB, fun g hg => by cases hg⟩
 refine ⟨w.heap.size, w1.heap.size, rfl, hst.below hb2, zaB _ _ _ rfl, Nat.le_refl _, by omega, ⟨hb2.os.trans hb1.os, hb2.tape.trans hb1.tape, hb2.output.trans hb1.output, Nat.le_trans hb1.size hb2.size, fun b hb => (hb2.block b (by omega)).trans (hb1.block b hb)⟩⟩
theorem zh6 (B cb bt sb C : Nat) (S : Src) (w : World) (hc : w.heap[cb]? = some (.cells #[zaj bt] 70 (0, 0))) (hS : zd5 B w sb S) (hok : zfx S) (hB : B <= w.heap.size) (h4 : 4 <= C) (hm : C <= 100000) :
 Calls Tryz.prog 21 #[zaj cb, zaj sb, .int .i64 C] w (ScanO B bt sb C S w) := by
 have hts := zg6 B cb bt sb C S w hc hS hok hB h4 hm; have HTS := hid hts; clear hts hc hS hok; go_enter Tryz.func21, Tryz.ntmps21; go_wp2_with (first | (go_at_call 30; refine (HTS.out).mono ?_; rintro e w1 ⟨bs, xb, rfl, ho⟩; have HO := hid ho; clear ho)); exact bodyPost_ret (v := .tuple #[zaj xb, .nilIface]) (by simp [results, Tryz.results21, go_sem]) rfl ⟨bs, xb, rfl, HO.out⟩
theorem elemPiece : zcp Tryz.prog 40 43 3 32 := zcp.of (z := .agg #[.string ⟨#[]⟩, .int .i64 0, .int .i64 0]) Tryz.underlying40 (by kernel_rfl) rfl (by decide)
def zbV (l : List Pc) : List Value := l.flatMap fun p => [.string p.text, .int .i64 p.n, .int .i64 p.kind]
theorem zjU (l : List Pc) : (zbV l).length = l.length * 3 := by
 induction l with
 | nil => rfl
 | cons a l ih => have e : zbV (a :: l) = .string a.text :: .int .i64 a.n :: .int .i64 a.kind :: zbV l := rfl
                  rw [e]; simp [ih]; omega
theorem zjI (l : List Pc) (i : Nat) (p : Pc) (h : l[i]? = some p) : (zbV l)[i * 3]? = some (.string p.text) /\ (zbV l)[i * 3 + 1]? = some (.int .i64 p.n) /\ (zbV l)[i * 3 + 2]? = some (.int .i64 p.kind) := by
 induction l generalizing i with
 | nil => simp at h
 | cons a l ih =>
  have e : zbV (a :: l) = .string a.text :: .int .i64 a.n :: .int .i64 a.kind :: zbV l := rfl; cases i with
  | zero => simp at h; subst h; exact ⟨rfl, rfl, rfl⟩
  | succ i =>
   have h' := ih i (by simpa using h); rw [e, show (i + 1) * 3 = i * 3 + 1 + 1 + 1 by omega]; simpa using h'
theorem zju (l : List Pc) : ∀ u ∈ zbV l, u.oneCell' = true := by
 intro u hu; simp only [zbV, List.mem_flatMap, List.mem_cons, List.not_mem_nil, or_false] at hu; obtain ⟨p, _, rfl | rfl | rfl⟩ := hu <;> rfl
theorem zid (l : List Pc) (g cap : Nat) (w : World) (h0 : 0 < l.length) (hl : l.length < 1000000) (hrow : w.ownsRow 0 43 3 (.slice (some ⟨g, 0, none⟩) l.length cap) l.length (zbV l)) :
 Calls Tryz.prog 20 #[.slice (some ⟨g, 0, none⟩) l.length cap] w fun e w' => ∃ sb, e = .returned (zaj sb) /\ zd5 w'.heap.size w' sb ⟨l, 0, 0⟩ /\ w.heap.size <= sb /\ Below w.heap.size w w' := by
 have HROW := hid hrow; have hnews : ∀ (j : Nat) (u : Value), (zbV l)[j]? = some u -> w.cell? ((⟨g, 0, none⟩ : Addr).add j) = some u := hrow.cells (g := g) rfl; have HN := hid hnews; clear hrow hnews; go_enter Tryz.func20, Tryz.ntmps20
 go_wp2_with (at_builtin; refine zan _ rfl _ _ rfl elemPiece (.slice none 0 0) 0 [] rfl (World.ownsRow_nil _ 0 _ _) ⟨g, 0, none⟩ l.length cap (zbV l) rfl (zjU l) (by exact HN.out) (zju l) h0 (by omega) (by decide) ?_; intro v1 w1 hrow1 hgr1 hbl1; have H1 := hid (And.intro hrow1 (And.intro hgr1 hbl1)); obtain ⟨g1, cap1, hv1⟩ : ∃ g1 cap1, v1 = .slice (some ⟨g1, 0, none⟩) l.length cap1 := (by rcases zaG hrow1 with ⟨_, h9⟩ | ⟨g1, c1, e9, _⟩; omega; exact ⟨g1, c1, by simpa using e9⟩); subst hv1; clear hrow1 hgr1 hbl1); go_ret
 have hgn : w.grownBy w1 none := H1.out.2.1; have hrow1 : w1.ownsRow 0 43 3 (.slice (some ⟨g1, 0, none⟩) l.length cap1) l.length (zbV l) := by simpa using H1.out.1
 have hb1 : Below w.heap.size w w1 := ⟨hgn.os, hgn.tape, hgn.output, hgn.size, fun b hb => hgn.block b hb (by simp)⟩; have hg1 := (hrow1.lt g1 rfl).2; have hcap : l.length <= cap1 := by
  rcases zaG hrow1 with ⟨e, _⟩ | ⟨g', c', e, h9, _⟩
  . cases e
  cases e; exact h9
 have hb2 : Below w1.heap.size w1 (w1.alloc (.cells #[.slice (some ⟨g1, 0, none⟩) l.length cap1, .int .i64 0, .int .i64 0, .int .i64 0] 78)) := (Below.refl _ _).alloc (Nat.le_refl _) _; refine ⟨w1.heap.size, rfl, ⟨some ⟨g1, 0, none⟩, cap1, 0, g1, 0, zaB _ _ _ rfl, hcap, by simp, fun _ => ⟨rfl, by omega, by simp; omega⟩, fun i p hp => ?_⟩, hb1.size, ⟨hb2.os.trans hb1.os, hb2.tape.trans hb1.tape, hb2.output.trans hb1.output, Nat.le_trans hb1.size hb2.size, fun b hb => (hb2.block b (zLd hb hb1.size)).trans (hb1.block b hb)⟩⟩; obtain ⟨k1, k2, k3⟩ := zjI l i p hp
 have hc : ∀ j u, (zbV l)[j]? = some u -> (w1.alloc (.cells #[.slice (some ⟨g1, 0, none⟩) l.length cap1, .int .i64 0, .int .i64 0, .int .i64 0] 78)).cell? ⟨g1, j, none⟩ = some u := fun j u hu =>
  (World.cell?_of_block (hb2.block g1 hg1)).trans (zax hrow1 j u hu)
 refine ⟨?_, ?_, ?_⟩
 . rw [Nat.zero_add]; exact hc _ _ k1
 . rw [Nat.zero_add]; exact hc _ _ k2
 rw [Nat.zero_add]; exact hc _ _ k3
end
section
open Go.RowKit Go.Lib
theorem zk8 (xb : Nat) (w : World) : Calls Tryz.prog 31 #[zaj xb] w fun e w' => e = .returned (.func (.func 50) #[] #[.pointer (some ⟨w.heap.size, 0, none⟩)]) /\ w' = w.alloc (.cells #[zaj xb] 46) := by
 have hmf : ∀ (fn : Fn) (first cap : Array Value) (w : World), (Instr.makeFunc fn first cap).run Tryz.prog w = .ok (.func fn first cap) w := fun _ _ _ _ => rfl; go_enter Tryz.func31, Tryz.ntmps31; go_wp2; go_ret; exact ⟨rfl, rfl⟩
end
end Go.Proofs.YtghpmhllpaheiaaGreatDoor
