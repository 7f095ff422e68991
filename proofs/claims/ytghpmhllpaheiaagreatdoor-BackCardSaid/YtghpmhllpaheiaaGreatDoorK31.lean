/-
  Part of the proof: Ba1, Ba2, Ba3, Ba4. No condition beyond those in the statements.
-/
import Derived.Laws.BitsLemmas
import Derived.Deep.RegionHeld3
import Derived.Test.YtghpmhllpaheiaaGreatDoorK28
import Derived.Test.YtghpmhllpaheiaaGreatDoorK30
set_option linter.unusedVariables false
set_option linter.unusedSimpArgs false
set_option maxRecDepth 100000
set_option maxHeartbeats 40000000
namespace Go.Proofs.YtghpmhllpaheiaaGreatDoor
section
open Go.RowKit Go.Lib
def bV (l : List Nat) : List Value := l.map fun (b : Nat) => Value.int .u8 (b : Int)
theorem bV_len (l : List Nat) : (bV l).length = l.length := by simp [bV]
theorem bV_app (a b : List Nat) : bV (a ++ b) = bV a ++ bV b := by simp [bV]
theorem putL_snoc (l : List Int) (n : Int) : putL (l ++ [n]) = putL l ++ putI n := by simp [putL]
theorem putU_len : ∀ (f u : Nat), (putU f u).length ≤ f + 1
 | 0, u => Nat.le_refl _
 | f + 1, u => by
  rw [putU]; split
  · have := putU_len f (u / 128)
    simp only [List.length_cons]; omega
  · simp
theorem putL_len (l : List Int) : (putL l).length ≤ 6 * l.length := by
 induction l with
 | nil => simp [putL]
 | cons a l ih =>
  have h : putL (a :: l) = putI a ++ putL l := rfl; have := putU_len 5 (a + 1).toNat; rw [h, List.length_append, List.length_cons]; unfold putI; omega
structure Ap (v v' : Value) (w w' : World) : Prop where
 os : w'.os = w.os
 tape : w'.tape = w.tape
 output : w'.output = w.output
 size : w.heap.size ≤ w'.heap.size
 keep : ∀ k, k < w.heap.size → v.ownBlock ≠ some k → w'.heap[k]? = w.heap[k]?
 new : ∀ g, v'.ownBlock = some g → v.ownBlock = some g ∨ w.heap.size ≤ g
theorem Ap.refl (v : Value) (w : World) : Ap v v w w := ⟨rfl, rfl, rfl, Nat.le_refl _, fun _ _ _ => rfl, fun _ h => .inl h⟩
theorem Ap.trans {a b c : Value} {u v w : World} (h : Ap a b u v) (k : Ap b c v w) : Ap a c u w :=
 ⟨k.os.trans h.os, k.tape.trans h.tape, k.output.trans h.output, Nat.le_trans h.size k.size, fun x hx hn => (k.keep x (Nat.lt_of_lt_of_le hx h.size) (fun e => by rcases h.new x e with e' | e'; exact hn e'; omega)).trans (h.keep x hx hn), fun g hg => by
  rcases k.new g hg with e | e
  · exact h.new g e
  · exact .inr (Nat.le_trans h.size e)⟩
theorem Ap.below {v v' : Value} {w w1 w' : World} {B : Nat} (h : Ap v v' w w') (hB : B ≤ w.heap.size) (hv : ∀ g, v.ownBlock = some g → B ≤ g) : Below B w w' :=
 ⟨h.os, h.tape, h.output, h.size, fun k hk => h.keep k (by omega) (fun e => by have := hv k e; omega)⟩
theorem Ap.of_below {v : Value} {w w' : World} (h : Below w.heap.size w w') : Ap v v w w' := ⟨h.os, h.tape, h.output, h.size, fun k hk _ => h.block k hk, fun _ h => .inl h⟩
theorem Ap.of_app {v v' : Value} {w w' : World} {o : Obj} (hg : (w.alloc o).grownBy w' v.ownBlock) (hb : v'.ownBlock = v.ownBlock ∨ v'.ownBlock = some (w.alloc o).heap.size) : Ap v v' w w' :=
 ⟨hg.os, hg.tape, hg.output, by have := hg.size; simp at this; omega, fun k hk hn => (hg.block k (by simp; omega) (fun e => hn e.symm)).trans (heap_old _ _ _ hk), fun g h => by
  rcases hb with e | e
  · exact .inl (e ▸ h)
  · rw [e] at h; simp at h; exact .inr (by omega)⟩
theorem u8_hi (u : Nat) : bits .or .u8 ((u : Int) % 256) 128 = ((u % 128 + 128 : Nat) : Int) := by
 have h8 : ∀ x, x < 256 → x ||| 128 = x % 128 + 128 := by decide +kernel
 have e1 : (u : Int) % 256 = ((u % 256 : Nat) : Int) := by omega
 have h := (bits_nat .u8 8 (by decide) wraps_u8 (u % 256) 128 (by omega) (by decide)).2; rw [e1]; refine h.trans ?_; rw [h8 _ (by omega)]; omega
def NumsAt (w : World) (ao : Option Addr) (l : List Int) (v : Value) : Prop := ∀ (i : Nat) (x : Int), l[i]? = some x → ∃ b off, ao = some ⟨b, off, none⟩ ∧ w.cell? ⟨b, off + i, none⟩ = some (.int .i64 x) ∧ b < w.heap.size ∧ v.ownBlock ≠ some b
theorem put_any (b : List Nat) (hb : b.length ≤ 1000000) (l : List Int) (hl : l.length ≤ 100000) (hr : ∀ x ∈ l, -1 ≤ x ∧ x < 100000000) (w : World) (ao ao1 : Option Addr) (cap cap1 : Nat) (hrow : w.ownsRow 0 5 1 (.slice ao1 b.length cap1) b.length (bV b)) (hN : NumsAt w ao l (.slice ao1 b.length cap1)) :
 Calls Tryz.prog 44 #[.slice ao1 b.length cap1, .slice ao l.length cap] w fun e w' => ∃ ao2 cap2, e = .returned (.slice ao2 (b ++ putL l).length cap2) ∧ w'.ownsRow 0 5 1 (.slice ao2 (b ++ putL l).length cap2) (b ++ putL l).length (bV (b ++ putL l)) ∧ Ap (.slice ao1 b.length cap1) (.slice ao2 (b ++ putL l).length cap2) w w' := by
 have HROW := hid (And.intro hrow hN); have HR := hid hr; clear hrow hN hr; go_enter Tryz.func44, Tryz.ntmps44; go_wp2_with (fail); go_loopw [0, 10] (fun s0 s10 wr => ∃ (i : Nat) (ao2 : Option Addr) (cap2 : Nat), s10 = .int .i64 i ∧ s0 = .slice ao2 (b ++ putL (l.take i)).length cap2 ∧ i ≤ l.length ∧ wr.ownsRow 0 5 1 (.slice ao2 (b ++ putL (l.take i)).length cap2) (b ++ putL (l.take i)).length (bV (b ++ putL (l.take i))) ∧ Ap (.slice ao1 b.length cap1) (.slice ao2 (b ++ putL (l.take i)).length cap2) w wr) (fun _ s10 _ => l.length - (RowKit.intOf s10).toNat)
 case atStart => exact ⟨0, ao1, cap1, rfl, by simp [putL], Nat.zero_le _, by simpa [putL] using HROW.out.1, by simpa [putL] using Ap.refl _ _⟩
 case round =>
  obtain ⟨i, ao2, cap2, rfl, rfl, hi, hrow2, hap2⟩ := hrel; by_cases hlt : i < l.length
  · have hz : (i : Int) < (l.length : Int) := by omega
    obtain ⟨x, hx⟩ : ∃ x, l[i]? = some x := ⟨_, List.getElem?_eq_getElem hlt⟩; obtain ⟨bb, off, rfl, hcx, hbx, hne⟩ := HROW.out.2 i x hx; have hxr := HR.out x (List.mem_of_getElem? hx); have rx := (World.cell?_of_block (hap2.keep bb hbx hne)).trans hcx; have hlen := putL_len (l.take i); have hlt2 : (l.take i).length ≤ 100000 := by rw [List.length_take]; omega
    have hbs : (b ++ putL (l.take i)).length ≤ 2000000 := by rw [List.length_append]; omega
    have htk : l.take (i + 1) = l.take i ++ [x] := by rw [List.take_add_one, hx]; rfl
    have w1' : IntKind.i64.wrap (x + 1) = x + 1 := IntWalk.i64_in _ (by omega); have w3' : IntKind.u64.wrap (x + 1) = ((x + 1).toNat : Int) := by rw [IntKind.wrap_u64]; omega
    have w2' : IntKind.i64.wrap ((i : Int) + 1) = (i : Int) + 1 := IntWalk.i64_in _ (by omega); have HT := hid htk; have HA := hid hap2; generalize hpre : b ++ putL (l.take i) = pre at hrow2 HA hbs ⊢; have HPRE := hid hpre; have HROW2 := hid hrow2; have hlb : bb < wr.heap.size := Nat.lt_of_lt_of_le hbx hap2.size; have hu : (x + 1).toNat < 128 ^ 5 := by omega
    clear hpre hrow2 hap2 hlen hlt2 htk hcx hx; obtain ⟨u0, hu0⟩ : ∃ u0, u0 = (x + 1).toNat := ⟨_, rfl⟩; rw [← hu0] at w3' hu; have HU0 := hid hu0; clear hu0; go_wp2_with (fail); generalize wr = wo at HROW2 HA hlb rx ⊢; have hput0 : putI x = putU 5 u0 := by unfold putI; rw [← HU0.out]
    have HPUT := hid hput0; clear hput0; go_loopw [0, 7] (fun s0 s7 wr => ∃ (u f : Nat) (acc : List Nat) (ao3 : Option Addr) (cap3 : Nat), s7 = .int .u64 u ∧ s0 = .slice ao3 (pre ++ acc).length cap3 ∧ u < 128 ^ f ∧ f ≤ 5 ∧ acc ++ putU f u = putU 5 u0 ∧ wr.ownsRow 0 5 1 (.slice ao3 (pre ++ acc).length cap3) (pre ++ acc).length (bV (pre ++ acc)) ∧ Ap (.slice ao2 pre.length cap2) (.slice ao3 (pre ++ acc).length cap3) wo wr) (fun _ s7 _ => (RowKit.intOf s7).toNat)
    case atStart => exact ⟨u0, 5, [], ao2, cap2, rfl, by simp, hu, Nat.le_refl _, rfl, by simpa using HROW2.out, by simpa using Ap.refl _ _⟩
    case round =>
     obtain ⟨u, f, acc, ao3, cap3, rfl, rfl, huf, hf5, hacc, hrow3, hap3⟩ := hrel; have hal : acc.length ≤ 6 := by
      have := congrArg List.length hacc; rw [List.length_append] at this; have := putU_len 5 u0; omega
     have hpl : (pre ++ acc).length ≤ 2000006 := by rw [List.length_append]; omega
     generalize hfull : pre ++ acc = full at hrow3 hap3 hpl ⊢; have H3 := hid (And.intro hrow3 (And.intro hap3 (And.intro hacc hfull))); clear hrow3 hap3 hacc hfull; have hup : u < 128 ^ 5 := Nat.lt_of_lt_of_le huf (Nat.pow_le_pow_right (by decide) hf5); by_cases h128 : 128 ≤ u
     · have y1 : (128 : Int) ≤ (u : Int) := by omega
       obtain ⟨f, rfl⟩ : ∃ g, f = g + 1 := ⟨f - 1, by
        have : f ≠ 0 := fun e => by subst e; simp at huf; omega
        omega⟩
       have hdiv : u / 128 < 128 ^ f := by rw [Nat.pow_succ] at huf; omega
       have hstep : (acc ++ [u % 128 + 128]) ++ putU f (u / 128) = putU 5 u0 := by
        have := H3.out.2.2.1; rw [putU, if_pos h128] at this; rw [← this]; simp
       have HST := hid (And.intro hdiv hstep); have hhi := u8_hi u; generalize hv : u % 128 + 128 = v at hhi HST; clear hdiv hstep huf; go_wp2_with (at_builtin; refine wpList_append_sl _ rfl _ _ rfl elemByte _ _ _ rfl (by exact row_below H3.out.1 ((Below.refl _ _).alloc (Nat.le_refl _) _)) ⟨wr.heap.size, 0, none⟩ 1 1 [.int .u8 v] rfl rfl (cells_new _ #[.int .u8 v] _ _ rfl) (by simp [Value.oneCell']) (by decide) (by omega) (by decide) ?_; intro v4 w4 hrow4 hgr4 hbl4; obtain ⟨g4, cap4, rfl⟩ := row_succ hrow4; have H4 := hid (And.intro hrow4 (Ap.of_app hgr4 hbl4)); clear hrow4 hgr4 hbl4)
       go_roundw
       case rel =>
        have e1 : pre ++ (acc ++ [v]) = full ++ [v] := by rw [← H3.out.2.2.2]; exact (List.append_assoc _ _ _).symm
        have e2 : (pre ++ (acc ++ [v])).length = full.length + 1 := by rw [e1]; simp
        refine ⟨u / 128, f, acc ++ [v], some ⟨g4, 0, none⟩, cap4, by go_num, by rw [e2], HST.out.1, by omega, HST.out.2, ?_, ?_⟩
        · rw [e2, e1, bV_app]
          exact H4.out.1
        · rw [e2]
          exact H3.out.2.1.trans H4.out.2
       case measure => (simp [RowKit.intOf] <;> omega)
     · have y1 : ¬ (128 : Int) ≤ (u : Int) := by omega
       have hfin : acc ++ [u] = putI x := by
        have := H3.out.2.2.1; rw [HPUT.out, ← this]; congr 1; cases f with
        | zero => rfl
        | succ f => rw [putU, if_neg h128]
       have HFIN := hid hfin; have hw8 : (u : Int) % 256 = (u : Int) := by omega
       clear hfin huf; go_wp2_with (at_builtin; refine wpList_append_sl _ rfl _ _ rfl elemByte _ _ _ rfl (by exact row_below H3.out.1 ((Below.refl _ _).alloc (Nat.le_refl _) _)) ⟨wr.heap.size, 0, none⟩ 1 1 [.int .u8 u] rfl rfl (cells_new _ #[.int .u8 u] _ _ rfl) (by simp [Value.oneCell']) (by decide) (by omega) (by decide) ?_; intro v4 w4 hrow4 hgr4 hbl4; obtain ⟨g4, cap4, rfl⟩ := row_succ hrow4; have H4 := hid (And.intro hrow4 (Ap.of_app hgr4 hbl4)); clear hrow4 hgr4 hbl4); go_roundw
       case rel =>
        have e1 : b ++ putL (l.take (i + 1)) = full ++ [u] := by
         rw [HT.out, putL_snoc, ← HFIN.out, ← List.append_assoc, HPRE.out, ← H3.out.2.2.2, List.append_assoc]
        have e2 : (b ++ putL (l.take (i + 1))).length = full.length + 1 := by rw [e1]; simp
        refine ⟨i + 1, some ⟨g4, 0, none⟩, cap4, by go_num, by rw [e2], by omega, ?_, ?_⟩
        · rw [e2, e1, bV_app]
          exact H4.out.1
        · rw [e2]
          exact (HA.out.trans H3.out.2.1).trans H4.out.2
       case measure => (simp [RowKit.intOf] <;> omega)
  · obtain rfl : i = l.length := by omega
    have hz : ¬ (l.length : Int) < (l.length : Int) := by omega
    have H2 := hid (And.intro hrow2 hap2); clear hrow2 hap2; go_wp2_with (fail); go_ret; have e : l.take l.length = l := List.take_length; have h2 := H2.out; rw [e] at h2; exact ⟨ao2, cap2, by simp, by simpa using h2.1, by simpa using h2.2⟩
end
section
open Go.RowKit Go.Lib
def sumP : List Nat → Nat × Nat → Nat × Nat
 | [], s => s
 | x :: r, s => sumP r ((s.1 + x) % 251, (s.2 + (s.1 + x) % 251) % 251)
def sumV (l : List Nat) : Nat := (sumP l (1, 0)).2 * 256 + (sumP l (1, 0)).1
theorem sumP_snoc (l : List Nat) (x : Nat) (s : Nat × Nat) : sumP (l ++ [x]) s = (((sumP l s).1 + x) % 251, ((sumP l s).2 + ((sumP l s).1 + x) % 251) % 251) := by
 induction l generalizing s with
 | nil => rfl
 | cons a l ih => exact ih _
theorem sumP_lt (l : List Nat) (s : Nat × Nat) (h : s.1 < 251 ∧ s.2 < 251) : (sumP l s).1 < 251 ∧ (sumP l s).2 < 251 := by
 induction l generalizing s with
 | nil => exact h
 | cons a l ih => exact ih _ ⟨Nat.mod_lt _ (by decide), Nat.mod_lt _ (by decide)⟩
theorem sum_or : ∀ a c : Nat, a < 251 → c < 251 → bits .or .i64 ((c : Int) * 256) (a : Int) = ((c * 256 + a : Nat) : Int) := fun a c ha hc => by
 have h := bits_join .i64 63 (by decide) (fun n h0 h1 => IntWalk.i64_in _ (by omega)) 8 ((c : Int) * 256) (a : Int) (by omega) (by omega) (by omega) (by omega) (by omega) (by omega); rw [h]; omega
theorem sum_any (b : List Nat) (hb : b.length ≤ 1000000) (h256 : ∀ x ∈ b, x < 256) (w : World) (ao : Option Addr) (cap : Nat) (hrow : w.ownsRow 0 5 1 (.slice ao b.length cap) b.length (bV b)) :
 Calls Tryz.prog 45 #[.slice ao b.length cap] w fun e w' => e = .returned (.int .i64 (sumV b : Nat)) ∧ w' = w := by
 have HROW := hid hrow; have H256 := hid h256; clear hrow h256; go_enter Tryz.func45, Tryz.ntmps45; go_wp2_with (fail); go_loopw [3, 4, 9] (fun s3 s4 s9 wr => ∃ (i : Nat), s9 = .int .i64 i ∧ s3 = .int .u16 ((sumP (b.take i) (1, 0)).1 : Nat) ∧ s4 = .int .u16 ((sumP (b.take i) (1, 0)).2 : Nat) ∧ i ≤ b.length ∧ wr = w) (fun _ _ s9 _ => b.length - (RowKit.intOf s9).toNat)
 case atStart => exact ⟨0, rfl, rfl, rfl, Nat.zero_le _, rfl⟩
 case round =>
  obtain ⟨i, rfl, rfl, rfl, hi, rfl⟩ := hrel; have hlt := sumP_lt (b.take i) (1, 0) (by decide); by_cases hl : i < b.length
  · have hz : (i : Int) < (b.length : Int) := by omega
    obtain ⟨x, hx⟩ : ∃ x, b[i]? = some x := ⟨_, List.getElem?_eq_getElem hl⟩; obtain ⟨g, rfl⟩ := row_some HROW.out (by omega); have hcx := row_cell HROW.out i (.int .u8 x) (by simp [bV, hx]); have hx2 := H256.out x (List.mem_of_getElem? hx); have htk : b.take (i + 1) = b.take i ++ [x] := by rw [List.take_add_one, hx]; rfl
    have hs := sumP_snoc (b.take i) x (1, 0); rw [← htk] at hs; have HS := hid hs; have gl := (row_lo HROW.out g rfl).2; generalize (sumP (b.take i) (1, 0)).1 = a at hlt HS ⊢; generalize (sumP (b.take i) (1, 0)).2 = c at hlt HS ⊢; have w1' : IntKind.u16.wrap ((a : Int) + (x : Int)) = (a : Int) + (x : Int) := by rw [IntKind.wrap_u16]; omega
    have w3' : IntKind.u16.wrap ((c : Int) + ((a : Int) + (x : Int)) % 251) = (c : Int) + ((a : Int) + (x : Int)) % 251 := by rw [IntKind.wrap_u16]; omega
    have w2' : IntKind.i64.wrap ((i : Int) + 1) = (i : Int) + 1 := IntWalk.i64_in _ (by omega); clear hs htk hx; go_wp2_with (fail); go_roundw
    case rel => exact ⟨i + 1, by go_num, by rw [HS.out]; go_num, by rw [HS.out]; go_num, by omega, trivial⟩
    case measure => (simp [RowKit.intOf] <;> omega)
  · obtain rfl : i = b.length := by omega
    have hz : ¬ (b.length : Int) < (b.length : Int) := by omega
    have e : b.take b.length = b := List.take_length; rw [e] at hlt ⊢; have hs : sumV b = (sumP b (1, 0)).2 * 256 + (sumP b (1, 0)).1 := rfl; have HS := hid hs; clear hs e; generalize (sumP b (1, 0)).1 = a at hlt HS ⊢; generalize (sumP b (1, 0)).2 = c at hlt HS ⊢; have h1 := sum_or a c hlt.1 hlt.2; have w1' : IntKind.i64.wrap ((c : Int) * 256) = (c : Int) * 256 := IntWalk.i64_in _ (by omega); go_wp2_with (fail); go_ret; exact ⟨by rw [HS.out]; push_cast; rfl, rfl⟩
end
section
open Go.RowKit Go.Lib
def rowsN (rule : List Int) (goes : List (List Int)) : List Int := (rule.zip goes).flatMap fun p => p.1 :: p.2
def headN (T : Tab) : List Int := [(T.cuts.length : Int), (T.goes.length : Int)]
def encN (T : Tab) : List Int := headN T ++ T.cuts ++ rowsN T.rule T.goes ++ [T.bound]
def encB (T : Tab) : List Nat := putL (encN T) ++ putI (sumV (putL (encN T)))
theorem putL_lt {l : List Int} (h : ∀ x ∈ l, -1 ≤ x ∧ x < 100000000) : ∀ x ∈ putL l, x < 256 := by
 intro x hx; obtain ⟨n, hn, hx⟩ := List.mem_flatMap.1 hx; have := h n hn; exact putU_lt 5 _ (by omega) x hx
theorem putL_app (a b : List Int) : putL (a ++ b) = putL a ++ putL b := by simp [putL]
theorem putL_one (n : Int) : putL [n] = putI n := by simp [putL]
theorem put_new (b : List Nat) (hb : b.length ≤ 1000000) (l : List Int) (hl : l.length ≤ 100) (hr : ∀ x ∈ l, -1 ≤ x ∧ x < 100000000) (w : World) (ao1 : Option Addr) (cap1 : Nat) (hrow : w.ownsRow 0 5 1 (.slice ao1 b.length cap1) b.length (bV b)) :
 Calls Tryz.prog 44 #[.slice ao1 b.length cap1, .slice (some ⟨w.heap.size, 0, none⟩) l.length l.length] (w.alloc (.cells (l.map (Value.int .i64)).toArray 3)) fun e w' => ∃ ao2 cap2, e = .returned (.slice ao2 (b ++ putL l).length cap2) ∧
  w'.ownsRow 0 5 1 (.slice ao2 (b ++ putL l).length cap2) (b ++ putL l).length (bV (b ++ putL l)) ∧ Ap (.slice ao1 b.length cap1) (.slice ao2 (b ++ putL l).length cap2) w w' := by
 have hbl : Below w.heap.size w (w.alloc (.cells (l.map (Value.int .i64)).toArray 3)) := (Below.refl _ w).alloc (Nat.le_refl _) _; refine (put_any b hb l (by omega) hr _ (some ⟨w.heap.size, 0, none⟩) ao1 l.length cap1 (row_below hrow hbl) ?_).mono ?_
 · intro i x hx
   refine ⟨w.heap.size, 0, rfl, ?_, by simp, fun e => ?_⟩
   · rw [cell_of _ _ _ _ _ _ (heap_new w (.cells (l.map (Value.int .i64)).toArray 3) _ rfl), Nat.zero_add]
     simp [hx]
   · have := (row_lo hrow _ e).2
     omega
 · rintro e w' ⟨ao2, cap2, rfl, h1, h2⟩
   exact ⟨ao2, cap2, rfl, h1, (Ap.of_below hbl).trans h2⟩
theorem strOf_bytes (l : List Nat) (h : ∀ x ∈ l, x < 256) : (strOf l).data.toList.map (fun b => b.toNat) = l := by
 have e : (strOf l).data.toList = l.map UInt8.ofNat := by simp [strOf]
 rw [e, List.map_map]
 conv => rhs; rw [← List.map_id l]
 refine List.map_congr_left fun x hx => ?_; have := h x hx; simp; omega
theorem conv_row (l : List Nat) (h : ∀ x ∈ l, x < 256) (w : World) (ao : Option Addr) (cap : Nat) (hrow : w.ownsRow 0 5 1 (.slice ao l.length cap) l.length (bV l)) (hl : 0 < l.length) :
 (convert 55 9 (.slice ao l.length cap)).run Tryz.prog w = .ok (.string (strOf l)) w := by
 obtain ⟨g, rfl⟩ := row_some hrow hl; have hlen : (strOf l).data.toList.length = l.length := by simp [strOf]
 have hb := strOf_bytes l h; have hh := run_convert_bytes_back (P := Tryz.prog) w 55 9 5 ⟨g, 0, none⟩ cap (strOf l).data.toList Tryz.underlying55 Tryz.underlying5 Tryz.underlying9 (fun j hj => by
  have hj' : j < l.length := by omega
  have he : (⟨g, 0, none⟩ : Addr).add j = ⟨g, j, none⟩ := by unfold Addr.add; split <;> simp_all
  have hc := row_cell hrow j (.int .u8 (l[j] : Nat)) (by simp [bV, hj']); rw [he, hc]; congr 2; have : ((strOf l).data.toList.map (fun b => b.toNat))[j]? = l[j]? := by rw [hb]
  rw [List.getElem?_map, List.getElem?_eq_getElem hj, List.getElem?_eq_getElem hj'] at this; simp at this; simp [this])
 rw [hlen] at hh; exact hh
structure EncOk (T : Tab) : Prop where
 nums : ∀ x ∈ encN T, -1 ≤ x ∧ x < 100000000
 len : (encN T).length ≤ 100000
 rules : T.rule.length = T.goes.length
structure BySt (w0 : World) (l : List Nat) (v : Value) (w : World) : Prop where
 row : w.ownsRow 0 5 1 v l.length (bV l)
 below : Below w0.heap.size w0 w
 lo : ∀ g, v.ownBlock = some g → w0.heap.size ≤ g
theorem BySt.ap {w0 w w' : World} {l l' : List Nat} {v v' : Value} (h : BySt w0 l v w) (hr : w'.ownsRow 0 5 1 v' l'.length (bV l')) (ha : Ap v v' w w') : BySt w0 l' v' w' :=
 ⟨hr, h.below.trans (ha.below (w1 := w) h.below.size h.lo), fun g hg => by
  rcases ha.new g hg with e | e
  · exact h.lo g e
  · exact Nat.le_trans h.below.size e⟩
def rowsT (T : Tab) (i : Nat) : List Int := ((T.rule.zip T.goes).take i).flatMap fun p => p.1 :: p.2
theorem rowsT_succ {T : Tab} {i : Nat} {r : Int} {row : List Int} (h1 : T.rule[i]? = some r) (h2 : T.goes[i]? = some row) : rowsT T (i + 1) = rowsT T i ++ (r :: row) := by
 have hz : (T.rule.zip T.goes)[i]? = some (r, row) := by
  rw [List.getElem?_zip_eq_some]; exact ⟨h1, h2⟩
 unfold rowsT; rw [List.take_add_one, hz]; simp
theorem rowsT_len (T : Tab) (i : Nat) : (rowsT T i).length ≤ (rowsN T.rule T.goes).length := by
 unfold rowsT rowsN
 conv => rhs; rw [← List.take_append_drop i (T.rule.zip T.goes)]
 rw [List.flatMap_append, List.length_append]; exact Nat.le_add_right _ _
theorem rowsT_all {T : Tab} (h : T.rule.length = T.goes.length) : rowsT T T.goes.length = rowsN T.rule T.goes := by
 unfold rowsT rowsN; rw [List.take_of_length_le (by simp [List.length_zip, h])]
theorem put_step {w0 wr : World} {pre l post : List Int} {ao : Option Addr} {cap : Nat} (hb : BySt w0 (putL pre) (.slice ao (putL pre).length cap) wr) (he : pre ++ l = post) (hp : post.length ≤ 100000) (hl : l.length ≤ 100) (hr : ∀ x ∈ l, -1 ≤ x ∧ x < 100000000) :
 Calls Tryz.prog 44 #[.slice ao (putL pre).length cap, .slice (some ⟨wr.heap.size, 0, none⟩) l.length l.length] (wr.alloc (.cells (l.map (Value.int .i64)).toArray 3)) fun e w' => ∃ ao2 cap2, e = .returned (.slice ao2 (putL post).length cap2) ∧ BySt w0 (putL post) (.slice ao2 (putL post).length cap2) w' := by
 have hpl := putL_len pre; have hpp : pre.length ≤ post.length := by rw [← he, List.length_append]; omega
 refine (put_new (putL pre) (by omega) l hl hr wr ao cap hb.row).mono ?_; rintro e w' ⟨ao2, cap2, rfl, h1, h2⟩; rw [← putL_app, he] at h1 h2 ⊢; exact ⟨ao2, cap2, rfl, hb.ap h1 h2⟩
theorem put_row {w0 wr : World} {pre l post : List Int} {ao ao1 : Option Addr} {cap cap1 : Nat} (hb : BySt w0 (putL pre) (.slice ao (putL pre).length cap) wr) (he : pre ++ l = post) (hp : post.length ≤ 100000) (hr : ∀ x ∈ l, -1 ≤ x ∧ x < 100000000) (hN : NumsAt wr ao1 l (.slice ao (putL pre).length cap)) :
 Calls Tryz.prog 44 #[.slice ao (putL pre).length cap, .slice ao1 l.length cap1] wr fun e w' => ∃ ao2 cap2, e = .returned (.slice ao2 (putL post).length cap2) ∧ BySt w0 (putL post) (.slice ao2 (putL post).length cap2) w' := by
 have hpl := putL_len pre; have hpp : pre.length ≤ post.length ∧ l.length ≤ post.length := by rw [← he, List.length_append]; omega
 refine (put_any (putL pre) (by omega) l (by omega) hr wr ao1 ao cap1 cap hb.row hN).mono ?_; rintro e w' ⟨ao2, cap2, rfl, h1, h2⟩; rw [← putL_app, he] at h1 h2 ⊢; exact ⟨ao2, cap2, rfl, hb.ap h1 h2⟩
theorem take_succ_app {α : Type} {l : List α} {i : Nat} {x : α} (h : l[i]? = some x) : l.take (i + 1) = l.take i ++ [x] := by rw [List.take_add_one, h]; rfl
def preC (T : Tab) (i : Nat) : List Int := headN T ++ T.cuts.take i
def preT (T : Tab) (i : Nat) : List Int := headN T ++ T.cuts ++ rowsT T i
theorem preC_zero (T : Tab) : preC T 0 = headN T := by simp [preC]
theorem preC_succ {T : Tab} {i : Nat} {x : Int} (h : T.cuts[i]? = some x) : preC T i ++ [x] = preC T (i + 1) := by
 unfold preC; rw [take_succ_app h, List.append_assoc]
theorem preC_all (T : Tab) : preC T T.cuts.length = preT T 0 := by
 unfold preC preT; rw [List.take_length]; simp [rowsT]
theorem preT_succ {T : Tab} {i : Nat} {r : Int} {row : List Int} (h1 : T.rule[i]? = some r) (h2 : T.goes[i]? = some row) : (preT T i ++ [r]) ++ row = preT T (i + 1) := by
 unfold preT; rw [rowsT_succ h1 h2]; simp
theorem preT_all {T : Tab} (h : T.rule.length = T.goes.length) : preT T T.goes.length ++ [T.bound] = encN T := by
 unfold preT encN; rw [rowsT_all h]
theorem preC_len {T : Tab} (hE : EncOk T) (i : Nat) : (preC T i).length ≤ 100000 := by
 have := hE.len; simp only [encN, List.length_append] at this; unfold preC; rw [List.length_append, List.length_take]; omega
theorem preT_len {T : Tab} (hE : EncOk T) (i : Nat) : (preT T i).length ≤ 100000 := by
 have h1 := hE.len; have h2 := rowsT_len T i; simp only [encN, List.length_append] at h1; unfold preT; rw [List.length_append, List.length_append]; omega
theorem rowsT_mem {T : Tab} {j : Nat} {x : Int} (hx : x ∈ rowsT T j) : x ∈ encN T := by
 have : x ∈ rowsN T.rule T.goes := by
  unfold rowsT at hx; unfold rowsN; obtain ⟨p, hp, hx⟩ := List.mem_flatMap.1 hx; exact List.mem_flatMap.2 ⟨p, List.mem_of_mem_take hp, hx⟩
 simp [encN, this]
end
section
open Go.RowKit Go.Lib
theorem bytes_any (T : Tab) (hE : EncOk T) (w : World) (B bt bc cc br cr bg cg : Nat) (h : TabAt B w bt T bc cc br cr bg cg) (hB : B ≤ w.heap.size) :
 Calls Tryz.prog 28 #[knotP bt] w fun e w' => e = .returned (.string (strOf (encB T))) ∧ Below w.heap.size w w' := by
 have c0 := h.c0; have c1 := h.c1; have c2 := h.c2; have c3 := h.c3; have lbt : bt < w.heap.size := Nat.lt_of_lt_of_le h.lt hB; have hput : ∀ wx, Below w.heap.size w wx → Calls Tryz.prog 44 #[.slice none 0 0, .slice (some ⟨wx.heap.size, 0, none⟩) 2 2] (wx.alloc (.cells #[.int .i64 (T.cuts.length : Int), .int .i64 (T.goes.length : Int)] 3)) fun e w' => ∃ ao2 cap2, e = .returned (.slice ao2 (putL (headN T)).length cap2) ∧ BySt w (putL (headN T)) (.slice ao2 (putL (headN T)).length cap2) w' ∧ Below w.heap.size w w' := by
  intro wx hbx; refine (put_new [] (by simp) (headN T) (by simp [headN]) (fun x hx => hE.nums x (by simp [encN, hx])) wx none 0 (World.ownsRow_nil _ _ _ _)).mono ?_; rintro e w' ⟨ao2, cap2, rfl, h1, h2⟩; have h3 := h2.below (w1 := wx) (Nat.le_refl _) (fun g hg => by cases hg); exact ⟨ao2, cap2, rfl, ⟨h1, below_then hbx h3 hbx.size, fun g hg => by
   rcases h2.new g hg with e | e
   · cases e
   · exact Nat.le_trans hbx.size e⟩, below_then hbx h3 hbx.size⟩
 have HPUT := hid hput; have hso : ∀ wx, Below w.heap.size w wx → Below w.heap.size w wx ∧ wx.cell? ⟨bt, 0, none⟩ = some (.slice (some ⟨bc, 0, none⟩) T.cuts.length cc) ∧ wx.cell? ⟨bt, 2, none⟩ = some (.slice (some ⟨bg, 0, none⟩) T.goes.length cg) := fun wx hbx => ⟨hbx, (below_cell hbx ⟨bt, 0, none⟩ lbt).trans c0, (below_cell hbx ⟨bt, 2, none⟩ lbt).trans c2⟩; have HSO := hid hso; have HTA := hid h; have HE := hid hE; clear h hE hput hso; go_enter Tryz.func28, Tryz.ntmps28; go_upto_region 1 with (fail)
 go_region_held3 (fun w' => Below w.heap.size w w' ∧ w'.cell? ⟨bt, 0, none⟩ = some (.slice (some ⟨bc, 0, none⟩) T.cuts.length cc) ∧ w'.cell? ⟨bt, 2, none⟩ = some (.slice (some ⟨bg, 0, none⟩) T.goes.length cg)) (first | exact HSO.out _ (Below.refl _ w).drew | exact HSO.out _ (by assumption) | exact HSO.out _ ((Below.refl _ w).drew.alloc (Nat.le_refl _) _)) (first | (go_at_call 44; refine (HPUT.out _ (Below.refl _ w).drew).mono ?_; rintro e w2 ⟨ao2, cap2, rfl, hst2, hb2⟩)); have H2 := hid hst2; clear hst2 hb2; go_wp2_with (fail)
 go_loopw [3, 25] (fun s3 s25 wr => ∃ (i : Nat) (ao : Option Addr) (cap : Nat), s25 = .int .i64 i ∧ s3 = .slice ao (putL (preC T i)).length cap ∧ i ≤ T.cuts.length ∧ BySt w (putL (preC T i)) (.slice ao (putL (preC T i)).length cap) wr) (fun _ s25 _ => T.cuts.length - (RowKit.intOf s25).toNat)
 case atStart => exact ⟨0, ao2, cap2, rfl, by rw [preC_zero], Nat.zero_le _, by rw [preC_zero]; exact H2.out⟩
 case round =>
  obtain ⟨i, ao, cap, rfl, rfl, hi, hst⟩ := hrel; by_cases hl : i < T.cuts.length
  · have hz : (i : Int) < (T.cuts.length : Int) := by omega
    obtain ⟨x, hx⟩ : ∃ x, T.cuts[i]? = some x := ⟨_, List.getElem?_eq_getElem hl⟩; have hxm : x ∈ encN T := by simp [encN, List.mem_of_getElem? hx]
    have hxr := HE.out.nums x hxm; obtain ⟨rc, hrc⟩ := HTA.out.cuts; have hcx := hrc.cell i (by simpa using hl); rw [show T.cuts.toArray[i]! = x by rw [getElem!_pos _ _ (by simpa using hl)]; simpa using (List.getElem?_eq_some_iff.1 hx).2] at hcx; have hlc : bc < w.heap.size := Nat.lt_of_lt_of_le HTA.out.ltc hB; have rx := (below_cell hst.below ⟨bc, i, none⟩ hlc).trans hcx; have hlb : bc < wr.heap.size := Nat.lt_of_lt_of_le hlc hst.below.size; have hsz0 := HTA.out.size; have w1' : IntKind.i64.wrap x = x := IntWalk.i64_in _ (by omega)
    have w2' : IntKind.i64.wrap ((i : Int) + 1) = (i : Int) + 1 := IntWalk.i64_in _ (by omega); have hps := put_step (l := [x]) hst (preC_succ hx) (preC_len HE.out _) (by simp) (fun y hy => by rw [List.mem_singleton] at hy; subst hy; exact hxr); have HPS := hid hps; clear hps hst hx hcx; go_wp2_with (first | (go_at_call 44; refine (HPS.out).mono ?_; rintro e w3 ⟨ao3, cap3, rfl, hst3⟩; have H3 := hid hst3; clear hst3)); go_roundw
    case rel => exact ⟨i + 1, ao3, cap3, by go_num, rfl, by omega, H3.out⟩
    case measure => (simp [RowKit.intOf] <;> omega)
  · obtain rfl : i = T.cuts.length := by omega
    have hz : ¬ (T.cuts.length : Int) < (T.cuts.length : Int) := by omega
    rw [preC_all] at hst ⊢; have r2 := (below_cell hst.below ⟨bt, 2, none⟩ lbt).trans c2; have lbr : bt < wr.heap.size := Nat.lt_of_lt_of_le lbt hst.below.size; have H4 := hid hst; clear hst; go_wp2_with (fail); go_loopw [3, 40] (fun s3 s40 wr => ∃ (i : Nat) (ao : Option Addr) (cap : Nat), s40 = .int .i64 i ∧ s3 = .slice ao (putL (preT T i)).length cap ∧ i ≤ T.goes.length ∧ BySt w (putL (preT T i)) (.slice ao (putL (preT T i)).length cap) wr) (fun _ s40 _ => T.goes.length - (RowKit.intOf s40).toNat)
    case atStart => exact ⟨0, ao, cap, rfl, rfl, Nat.zero_le _, H4.out⟩
    case round =>
     obtain ⟨i, ao, cap, rfl, rfl, hi, hst⟩ := hrel; by_cases hl : i < T.goes.length
     · have hz : (i : Int) < (T.goes.length : Int) := by omega
       obtain ⟨row, hrow⟩ : ∃ x, T.goes[i]? = some x := ⟨_, List.getElem?_eq_getElem hl⟩; obtain ⟨r, hr⟩ : ∃ x, T.rule[i]? = some x := ⟨_, List.getElem?_eq_getElem (by rw [HE.out.rules]; exact hl)⟩; have hsub : ∀ x ∈ r :: row, x ∈ encN T := fun x hx => rowsT_mem (j := i + 1) (by rw [rowsT_succ hr hrow]; exact List.mem_append_right _ hx); have hpt := preT_succ hr hrow; obtain ⟨rb, rcap, q1, q2, q3⟩ := HTA.out.goes i row hrow; have hcr := HTA.out.rule i r hr; have k1 := (below_cell hst.below ⟨bt, 1, none⟩ lbt).trans c1
       have k2 := (below_cell hst.below ⟨br, i, none⟩ (Nat.lt_of_lt_of_le HTA.out.ltr hB)).trans hcr; have k3 := (below_cell hst.below ⟨bg, i, none⟩ (Nat.lt_of_lt_of_le HTA.out.ltg hB)).trans q1; have hl2 := preT_len HE.out (i + 1); have hl1 : (preT T i ++ [r]).length ≤ 100000 := by rw [← hpt, List.length_append] at hl2; omega
       generalize hP0 : preT T i = P0 at hst hpt hl1 ⊢; generalize hP1 : P0 ++ [r] = P1 at hpt hl1; generalize hP2 : preT T (i + 1) = P2 at hpt hl2; have hps := put_step (l := [r]) (post := P1) hst hP1 hl1 (by simp) (fun y hy => by rw [List.mem_singleton] at hy; subst hy; exact HE.out.nums _ (hsub _ (by simp)))
       have hps2 : ∀ (ao3 : Option Addr) (cap3 : Nat) (w3 : World), BySt w (putL P1) (.slice ao3 (putL P1).length cap3) w3 → Calls Tryz.prog 44 #[.slice ao3 (putL P1).length cap3, .slice (some ⟨rb, 0, none⟩) row.length rcap] w3 fun e w' => ∃ ao2 cap2, e = .returned (.slice ao2 (putL P2).length cap2) ∧ BySt w (putL P2) (.slice ao2 (putL P2).length cap2) w' := by
        intro ao3 cap3 w3 hst3; refine put_row hst3 hpt hl2 (fun y hy => HE.out.nums _ (hsub _ (by simp [hy]))) fun j x hx => ⟨rb, 0, rfl, ?_, ?_, fun e => ?_⟩
        · rw [Nat.zero_add]
          exact (below_cell hst3.below ⟨rb, j, none⟩ (Nat.lt_of_lt_of_le q2 hB)).trans (q3 j x hx)
        · exact Nat.lt_of_lt_of_le (Nat.lt_of_lt_of_le q2 hB) hst3.below.size
        · have := hst3.lo rb e
          omega
       have HP2 := hid hP2; have HPS := hid (And.intro hps hps2); have l1 : bt < wr.heap.size := Nat.lt_of_lt_of_le lbt hst.below.size; have l2 : br < wr.heap.size := Nat.lt_of_lt_of_le (Nat.lt_of_lt_of_le HTA.out.ltr hB) hst.below.size; have l3 : bg < wr.heap.size := Nat.lt_of_lt_of_le (Nat.lt_of_lt_of_le HTA.out.ltg hB) hst.below.size; have hrl : (T.rule.length : Int) = (T.goes.length : Int) := by rw [HE.out.rules]
       have zr : (i : Int) < (T.rule.length : Int) := by omega
       have w2' : IntKind.i64.wrap ((i : Int) + 1) = (i : Int) + 1 := IntWalk.i64_in _ (by have := HTA.out.size; omega); clear hps hps2 hst hrow hr hsub q1 q3 hcr hrl hP0 hP1 hP2 hpt hl1 hl2; go_upto_region 11 with (first | (go_at_call 44; refine (HPS.out.1).mono ?_; rintro e w3 ⟨ao3, cap3, rfl, hst3⟩; have H3 := hid hst3; clear hst3))
       have h11 := HPS.out.2 ao3 cap3 w3 H3.out; have H11 := hid h11; clear h11; go_wp2_with (first | (go_at_call 44; refine (H11.out).mono ?_; rintro e w4 ⟨ao4, cap4, rfl, hst4⟩; have H5 := hid hst4; clear hst4)); go_roundw
       case rel => exact ⟨i + 1, ao4, cap4, by go_num, by rw [HP2.out], by omega, by rw [HP2.out]; exact H5.out⟩
       case measure => (simp [RowKit.intOf] <;> omega)
     · obtain rfl : i = T.goes.length := by omega
       have hz : ¬ (T.goes.length : Int) < (T.goes.length : Int) := by omega
       have r3 := (below_cell hst.below ⟨bt, 3, none⟩ lbt).trans c3; have lbr : bt < wr.heap.size := Nat.lt_of_lt_of_le lbt hst.below.size; have hps := put_step (l := [T.bound]) (post := encN T) hst (preT_all HE.out.rules) HE.out.len (by simp) (fun y hy => by rw [List.mem_singleton] at hy; subst hy; exact HE.out.nums _ (by simp [encN])); have hlt := putL_lt HE.out.nums; have hln := putL_len (encN T); have hl5 := HE.out.len; have hsum := sumP_lt (putL (encN T)) (1, 0) (by decide); have hsv : sumV (putL (encN T)) < 65536 := by unfold sumV; omega
       have hps2 : ∀ (ao3 : Option Addr) (cap3 : Nat) (w3 : World), BySt w (putL (encN T)) (.slice ao3 (putL (encN T)).length cap3) w3 → Calls Tryz.prog 45 #[.slice ao3 (putL (encN T)).length cap3] w3 (fun e w' => e = .returned (.int .i64 (sumV (putL (encN T)) : Nat)) ∧ w' = w3) ∧ Calls Tryz.prog 44 #[.slice ao3 (putL (encN T)).length cap3, .slice (some ⟨w3.heap.size, 0, none⟩) 1 1] (w3.alloc (.cells #[.int .i64 (sumV (putL (encN T)) : Nat)] 3)) fun e w' => ∃ ao2 cap2, e = .returned (.slice ao2 (encB T).length cap2) ∧ (convert 55 9 (.slice ao2 (encB T).length cap2)).run Tryz.prog w' = .ok (.string (strOf (encB T))) w' ∧ Below w.heap.size w w' := by
        intro ao3 cap3 w3 hst3; refine ⟨sum_any _ (by omega) hlt w3 ao3 cap3 hst3.row, ?_⟩; refine (put_new (putL (encN T)) (by omega) [((sumV (putL (encN T)) : Nat) : Int)] (by simp) (fun y hy => by rw [List.mem_singleton] at hy; subst hy; omega) w3 ao3 cap3 hst3.row).mono ?_; rintro e w' ⟨ao2, cap2, rfl, h1, h2⟩; rw [putL_one] at h1 h2 ⊢; have hb := hst3.ap h1 h2; refine ⟨ao2, cap2, rfl, conv_row (encB T) ?_ w' ao2 cap2 h1 ?_, hb.below⟩
        · intro x hx
          rcases List.mem_append.1 hx with hx | hx
          · exact hlt x hx
          · exact putU_lt 5 _ (by omega) x hx
        · unfold encB putI
          rw [List.length_append]; have : 0 < (putU 5 ((((sumV (putL (encN T)) : Nat) : Int)) + 1).toNat).length := by
           rw [putU]; split <;> simp
          omega
       have HPS := hid (And.intro hps hps2); clear hps hps2 hst hlt hln hsum; generalize preT T T.goes.length = PT at HPS ⊢; generalize hEB : encB T = EB at HPS ⊢; generalize encN T = EN at HPS hsv ⊢; generalize sumV (putL (encN T)) = sv at HPS hsv; go_upto_region 14 with (first | (go_at_call 44; refine (HPS.out.1).mono ?_; rintro e w3 ⟨ao3, cap3, rfl, hst3⟩; have H3 := hid hst3; clear hst3))
       have h14 := HPS.out.2 ao3 cap3 w3 H3.out; have H14 := hid h14; clear h14; go_wp2_with (first | (go_at_call 45; refine (H14.out.1).mono ?_; rintro e w4 ⟨rfl, rfl⟩) | (go_at_call 44; refine (H14.out.2).mono ?_; rintro e w5 ⟨ao5, cap5, rfl, hcv, hb5⟩; have HB5 := hid hb5; clear hb5)); go_ret; exact ⟨by rw [hEB]; rfl, HB5.out⟩
end
end Go.Proofs.YtghpmhllpaheiaaGreatDoor
