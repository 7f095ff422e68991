/-
  Part of the proof: Wh1. No condition beyond those in the statements.
-/
import Derived.Test.YtghpmhllpaheiaaGreatDoorK28
import Derived.Test.YtghpmhllpaheiaaGreatDoorK25
set_option linter.unusedVariables false
set_option linter.unusedSimpArgs false
namespace Go.Proofs.YtghpmhllpaheiaaGreatDoor
open Go.RowKit Go.Lib
theorem atN_le {R : Nat} {s : ByteArray} {pos line : Int} {l : List Tk} (h : WholeT R s pos line l) (i : Nat) (hi : i ≤ l.length) : atN l i ≤ s.size := by
 rcases Nat.lt_or_eq_of_le hi with h1 | h1
 · have := (h.tok i l[i] (List.getElem?_eq_getElem h1)).2.2.1
   omega
 · rw [h1, h.all]; exact Nat.le_refl _
theorem lnN_le (l : List Tk) : ∀ i : Nat, i ≤ l.length → lnN l i ≤ atN l i
 | 0, _ => by rw [lnN_zero]; exact Nat.zero_le _
 | i + 1, h => by
  have ht := List.getElem?_eq_getElem (show i < l.length by omega); rw [atN_succ ht, lnN_succ ht]; have := lnN_le l i (by omega); have := cntTo_le l[i].text l[i].text.size; omega
theorem len_le {R : Nat} {s : ByteArray} {pos line : Int} {l : List Tk} (h : WholeT R s pos line l) : ∀ i : Nat, i ≤ l.length → i ≤ atN l i
 | 0, _ => Nat.zero_le _
 | i + 1, hi => by
  have ht := List.getElem?_eq_getElem (show i < l.length by omega); rw [atN_succ ht]; have := len_le h i (by omega); have := (h.tok i _ ht).1; omega
set_option maxRecDepth 100000 in
set_option maxHeartbeats 40000000 in
theorem whole_any (c : Int) (hc : -9223372036854775808 ≤ c ∧ c ≤ 9223372036854775807) (t : ByteArray) (w : World) (hG : Gl w) :
 Calls Tryz.prog 3 #[.int .i64 c, .string t] w fun e w' => e = .returned (.bool true) ∧ Below w.heap.size w w' := by
 have hk := pick_lt c 8 (by decide); have hrul := fun w => rules_any c hc w; have htab := tables_any c hc w hG; generalize pickP c 8 = k at hk hrul htab; have HR := Lib.hid hrul; have HG := Lib.hid hG; have HK := Lib.hid hk; have HTAB := Lib.hid htab; clear hrul hG hk htab; by_cases ht : 2000 < t.size
 · have hd : (2000 : Int) < (t.size : Int) := by omega
   clear hc ht; go_enter Tryz.func3, Tryz.ntmps3; go_wp2_with (first | (go_at_call 12; refine (HTAB.out).mono ?_; rintro e w1 ⟨cb, rfl, hcm, hb1⟩; have H1 := Lib.hid (And.intro hcm hb1); clear hcm hb1)); go_ret; exact ⟨rfl, H1.out.2⟩
 · have hd : ¬ (2000 : Int) < (t.size : Int) := by omega
   have HT2 := Lib.hid (show t.size ≤ 2000 by omega); clear hc ht; go_enter Tryz.func3, Tryz.ntmps3; go_upto_region 4 with (first | (go_at_call 12; refine (HTAB.out).mono ?_; rintro e w1 ⟨cb, rfl, hcm, hb1⟩; have H1 := Lib.hid (And.intro hcm hb1); clear hcm hb1))
   have hg1 := HG.out.later H1.out.2; have htk := tokens_all (wf_i HK.out) t HT2.out w1 hg1 H1.out.1; have hwh := ideal_whole (wf_i HK.out) (C := 5000) 3000 t 0 1 1 (by have := HT2.out; omega) (by have := HT2.out; omega) (Int.le_refl _) (Int.le_refl _); unfold ToksO at htk; generalize (idealL (tabOf k) 5000 13 3000 t 0 1 1).1 = l at htk hwh; have HTOK := Lib.hid htk; have HWH := Lib.hid hwh; clear htk hwh hg1; go_wp2_with (first | (go_at_call 13; refine (HTOK.out).mono ?_; rintro e w2 ⟨ao, cap, rfl, hrow, hb2⟩; have H2 := Lib.hid (And.intro hrow hb2); clear hrow hb2))
   go_loopw [8, 9, 10] (fun s8 s9 s10 wr => ∃ (i : Nat), s10 = .int .i64 i ∧ s8 = .int .i64 (atN l i : Nat) ∧ s9 = .int .i64 (1 + lnN l i : Nat) ∧ i ≤ l.length ∧ Below w2.heap.size w2 wr) (fun _ _ s10 _ => l.length - (RowKit.intOf s10).toNat)
   case atStart => exact ⟨0, rfl, by rw [atN_zero]; rfl, by rw [lnN_zero]; rfl, Nat.zero_le _, Below.refl _ _⟩
   case round =>
    obtain ⟨i, rfl, rfl, rfl, hi, hbr⟩ := hrel; by_cases hlt : i < l.length
    · have hz : (i : Int) < (l.length : Int) := by omega
      obtain ⟨tk, htk⟩ : ∃ tk, l[i]? = some tk := ⟨_, List.getElem?_eq_getElem hlt⟩; obtain ⟨f1, f2, f3, f4, f5, f6, f7, f8, f9⟩ := HWH.out.tok i tk htk; obtain ⟨g, rfl⟩ : ∃ g, ao = some ⟨g, 0, none⟩ := by
       rcases H2.out.1.2 with ⟨e9, h9⟩ | ⟨g, c9, cur9, e9, _⟩
       · omega
       · exact ⟨g, by simp at e9; exact e9.1⟩
      have gl := (row_lo H2.out.1 g rfl).2; obtain ⟨q0, q1, q2, q3, q4⟩ := tkCells_get l i tk htk; have r0 := (below_cell hbr ⟨g, i * 5, none⟩ gl).trans (row_cellB H2.out.1 _ _ q0); have r1 := (below_cell hbr ⟨g, i * 5 + 1, none⟩ gl).trans (row_cellB H2.out.1 _ _ q1); have r2 := (below_cell hbr ⟨g, i * 5 + 2, none⟩ gl).trans (row_cellB H2.out.1 _ _ q2); have r3 := (below_cell hbr ⟨g, i * 5 + 3, none⟩ gl).trans (row_cellB H2.out.1 _ _ q3); have r4 := (below_cell hbr ⟨g, i * 5 + 4, none⟩ gl).trans (row_cellB H2.out.1 _ _ q4); clear q0 q1 q2 q3 q4
      have e1 : tk.pos = ((atN l i : Nat) : Int) := by omega
      have e2 : tk.line = ((1 + lnN l i : Nat) : Int) := by omega
      rw [e1] at r1; rw [e2] at r2; have HS := Lib.hid (atN_succ htk); have HSL := Lib.hid (lnN_succ htk); have hln := lnN_le l i hi; have hpl := atN_le HWH.out i hi; have hli := len_le HWH.out l.length (Nat.le_refl _); have hll := atN_le HWH.out l.length (Nat.le_refl _); have hT2 := HT2.out; clear e1 e2 f2 f5; generalize atN l i = p at r1 f3 f4 HS hln hpl ⊢; generalize hL : 1 + lnN l i = L at r2 ⊢; have HL := Lib.hid hL; obtain ⟨n, hn⟩ : ∃ n, n = tk.text.size := ⟨_, rfl⟩; rw [← hn] at f1 f3 f4 HS f9; have HN := Lib.hid hn; have hLs : L ≤ 2001 := by omega
      clear hL; have z1 : ((n : Int) == 0) = false := by simp; omega
      have z2 : ¬ (t.size : Int) < (p : Int) + (n : Int) := by omega
      have z3 : ¬ tk.col < 1 := by omega
      have z4 : ¬ tk.rule < -1 := by omega
      have w1' : IntKind.i64.wrap ((p : Int) + (n : Int)) = (p : Int) + (n : Int) := IntWalk.i64_in _ (by omega); have w2' : IntKind.i64.wrap ((i : Int) + 1) = (i : Int) + 1 := IntWalk.i64_in _ (by omega); have ln : tk.text.size = n := hn.symm; have hgw : g < wr.heap.size := Nat.lt_of_lt_of_le gl hbr.size; have HF := Lib.hid (And.intro f4 (And.intro f7 (And.intro f8 f9))); have HBR := Lib.hid hbr; clear f7 f8 f9 hn hbr; go_upto_region 13 with (fail)
      go_quiet (fail); have hb0 : Below wr.heap.size wr (wr.drewN nq) := below_dn9 (Below.refl _ wr) nq; have d0 : (wr.drewN nq).cell? ⟨g, i * 5, none⟩ = some (.int .i64 tk.rule) := r0; have d4 : (wr.drewN nq).cell? ⟨g, i * 5 + 4, none⟩ = some (.string tk.text) := r4; have hgq : g < (wr.drewN nq).heap.size := hgw; generalize wr.drewN nq = wq at hb0 d0 d4 hgq ⊢; have hso : ∀ w9, Below wq.heap.size wq w9 → Below wq.heap.size wq w9 ∧ w9.cell? ⟨g, i * 5, none⟩ = some (.int .i64 tk.rule) := fun w9 hb9 => ⟨hb9, (below_cell hb9 ⟨g, i * 5, none⟩ hgq).trans d0⟩
      have hr4 : ∀ w9, Below wq.heap.size wq w9 → w9.cell? ⟨g, i * 5 + 4, none⟩ = some (.string tk.text) := fun w9 hb9 => (below_cell hb9 ⟨g, i * 5 + 4, none⟩ hgq).trans d4; have z5 : ¬ ((rulesP k).length : Int) ≤ tk.rule := by have := HF.out.2.2.1; omega
      have HSO := Lib.hid hso; have HR4 := Lib.hid hr4; have HB0 := Lib.hid hb0; clear hso hr4 hb0 r0 r1 r2 r3 r4 d4; go_upto_region 15 with (fail)
      by_cases hr : tk.rule < 0
      · have z6 : ¬ (4 : Int) < (n : Int) := by have := HF.out.2.2.2 hr; omega
        refine wp_region_noPanic ?_; refine wp_region_held_drew (S := fun w9 => Below wq.heap.size wq w9 ∧ w9.cell? ⟨g, i * 5, none⟩ = some (.int .i64 tk.rule)) (by kernel_rfl) (HSO.out _ (Below.refl _ wq).drew) (fun hS0 => ?_); refine held_t 0 hS0 ?_ ?_ (v := ?_); rotate_left
        · intro w9 hS9
          (try dsimp only at hS9); go_simp; (try with_reducible rfl)
        (try simp only [Act.put, lA, lB, lC]); refine held_t 1 hS0 ?_ ?_ (v := ?_); rotate_left
        · intro w9 hS9
          (try dsimp only at hS9); go_simp; (try with_reducible rfl)
        (try simp only [Act.put, lA, lB, lC]); refine held_t 2 hS0 ?_ ?_ (v := ?_); rotate_left
        · intro w9 hS9
          (try dsimp only at hS9); go_simp; (try with_reducible rfl)
        (try simp only [Act.put, lA, lB, lC]); refine held_t 3 hS0 ?_ ?_ (v := ?_); rotate_left
        · intro w9 hS9
          (try dsimp only at hS9); go_simp; (try with_reducible rfl)
        (try simp only [Act.put, lA, lB, lC]); refine held_t 4 hS0 ?_ ?_ (v := ?_); rotate_left
        · intro w9 hS9
          (try dsimp only at hS9); go_simp; (try with_reducible rfl)
        (try simp only [Act.put, lA, lB, lC]); refine held_t 5 hS0 ?_ ?_ (v := ?_); rotate_left
        · intro w9 hS9
          (try dsimp only at hS9); go_simp; (try with_reducible rfl)
        (try simp only [Act.put, lA, lB, lC]); refine held_t 6 hS0 ?_ ?_ (v := ?_); rotate_left
        · intro w9 hS9
          (try dsimp only at hS9); go_simp; (try with_reducible rfl)
        (try simp only [Act.put, lA, lB, lC]); refine held_t 7 hS0 ?_ ?_ (v := ?_); rotate_left
        · intro w9 hS9
          (try dsimp only at hS9); go_simp; (try with_reducible rfl)
        (try simp only [Act.put, lA, lB, lC]); refine held_t 8 hS0 ?_ ?_ (v := ?_); rotate_left
        · intro w9 hS9
          (try dsimp only at hS9); go_simp; (try with_reducible rfl)
        (try simp only [Act.put, lA, lB, lC]); refine held_t 9 hS0 ?_ ?_ (v := ?_); rotate_left
        · intro w9 hS9
          (try dsimp only at hS9); go_simp; (try with_reducible rfl)
        (try simp only [Act.put, lA, lB, lC]); refine held_t 10 hS0 ?_ ?_ (v := ?_); rotate_left
        · intro w9 hS9
          (try dsimp only at hS9); go_simp; (try with_reducible rfl)
        (try simp only [Act.put, lA, lB, lC]); refine held_t 11 hS0 ?_ ?_ (v := ?_); rotate_left
        · intro w9 hS9
          (try dsimp only at hS9); go_simp; (try with_reducible rfl)
        (try simp only [Act.put, lA, lB, lC]); refine held_t 12 hS0 ?_ ?_ (v := ?_); rotate_left
        · intro w9 hS9
          (try dsimp only at hS9); go_simp; (try with_reducible rfl)
        (try simp only [Act.put, lA, lB, lC]); refine held_step 13 (by rfl) (by kernel_rfl) (fun K hK => ?_); go_simp; go_at_call 14; refine (HR.out _).mono ?_; rintro e w3 ⟨g2, rfl, hrow2, hb2⟩; clear hrow2; refine hK.out _ _ (HSO.out _ (below_then hS0.1 hb2 hS0.1.size)) (fun hS1 => ?_); clear hK K hS0; have hS0 := hS1; clear hS1; (try simp only [Act.put, lA, lB, lC]); refine held_t 14 hS0 ?_ ?_ (v := ?_); rotate_left
        · intro w9 hS9
          (try dsimp only at hS9); go_simp; (try with_reducible rfl)
        (try simp only [Act.put, lA, lB, lC]); refine held_t 15 hS0 ?_ ?_ (v := ?_); rotate_left
        · intro w9 hS9
          (try dsimp only at hS9); go_simp; (try with_reducible rfl)
        (try simp only [Act.put, lA, lB, lC]); refine held_t 16 hS0 ?_ ?_ (v := ?_); rotate_left
        · intro w9 hS9
          (try dsimp only at hS9); go_simp; (try with_reducible rfl)
        (try simp only [Act.put, lA, lB, lC]); refine held_t 17 hS0 ?_ ?_ (v := ?_); rotate_left
        · intro w9 hS9
          (try dsimp only at hS9); go_simp; (try with_reducible rfl)
        (try simp only [Act.put, lA, lB, lC]); refine held_t 18 hS0 ?_ ?_ (v := ?_); rotate_left
        · intro w9 hS9
          (try dsimp only at hS9); go_simp; (try with_reducible rfl)
        (try simp only [Act.put, lA, lB, lC]); refine held_t 19 hS0 ?_ ?_ (v := ?_); rotate_left
        · intro w9 hS9
          (try dsimp only at hS9); go_simp; (try with_reducible rfl)
        (try simp only [Act.put, lA, lB, lC]); refine held_t 20 hS0 ?_ ?_ (v := ?_); rotate_left
        · intro w9 hS9
          (try dsimp only at hS9); go_simp; (try with_reducible rfl)
        (try simp only [Act.put, lA, lB, lC]); refine held_t 21 hS0 ?_ ?_ (v := ?_); rotate_left
        · intro w9 hS9
          (try dsimp only at hS9); go_simp; (try with_reducible rfl)
        (try simp only [Act.put, lA, lB, lC]); refine held_t 22 hS0 ?_ ?_ (v := ?_); rotate_left
        · intro w9 hS9
          (try dsimp only at hS9); go_simp; (try with_reducible rfl)
        (try simp only [Act.put, lA, lB, lC]); refine held_t 23 hS0 ?_ ?_ (v := ?_); rotate_left
        · intro w9 hS9
          (try dsimp only at hS9); go_simp; (try with_reducible rfl)
        (try simp only [Act.put, lA, lB, lC]); refine held_t 24 hS0 ?_ ?_ (v := ?_); rotate_left
        · intro w9 hS9
          (try dsimp only at hS9); go_simp; (try with_reducible rfl)
        (try simp only [Act.put, lA, lB, lC]); refine held_t 25 hS0 ?_ ?_ (v := ?_); rotate_left
        · intro w9 hS9
          (try dsimp only at hS9); go_simp; (try with_reducible rfl)
        (try simp only [Act.put, lA, lB, lC]); refine held_t 26 hS0 ?_ ?_ (v := ?_); rotate_left
        · intro w9 hS9
          (try dsimp only at hS9); go_simp; (try with_reducible rfl)
        (try simp only [Act.put, lA, lB, lC]); refine held_t 27 hS0 ?_ ?_ (v := ?_); rotate_left
        · intro w9 hS9
          (try dsimp only at hS9); go_simp; (try with_reducible rfl)
        (try simp only [Act.put, lA, lB, lC]); refine held_t 28 hS0 ?_ ?_ (v := ?_); rotate_left
        · intro w9 hS9
          (try dsimp only at hS9); go_simp; (try with_reducible rfl)
        (try simp only [Act.put, lA, lB, lC]); refine wpAnyH_done (by kernel_rfl) ?_ _; refine NoPanic.normal ?_; have hr5 := HR4.out _ hS0.1; have HS0 := Lib.hid hS0.1; have hgw3 : g < w3.heap.size := Nat.lt_of_lt_of_le hgq hS0.1.size; clear hS0; go_wp2_with (fail); go_loopw [9, 12] (fun s9 s12 wz => ∃ (j : Nat), s12 = .int .i64 j ∧ s9 = .int .i64 (L + cntTo tk.text j : Nat) ∧ j ≤ n ∧ wz = w3) (fun _ s12 _ => n - (RowKit.intOf s12).toNat)
        case atStart => exact ⟨0, rfl, rfl, Nat.zero_le _, rfl⟩
        case round =>
         obtain ⟨j, rfl, rfl, hj, rfl⟩ := hrel; by_cases hjl : j < n
         · have y1 : (j : Int) < (n : Int) := by omega
           have y2 : IntKind.i64.wrap ((j : Int) + 1) = (j : Int) + 1 := IntWalk.i64_in _ (by omega); have hcl := cntTo_le tk.text j; have y3 : IntKind.i64.wrap (((L + cntTo tk.text j : Nat) : Int) + 1) = ((L + cntTo tk.text j : Nat) : Int) + 1 := IntWalk.i64_in _ (by omega); have hjs : j < tk.text.size := by omega
           have ebj : (tk.text[j]'hjs).toNat = byt tk.text j := by
            unfold byt; simp only [ByteArray.get!]; rw [getElem!_pos _ _ (by simpa using hjs)]; rfl
           by_cases hten : byt tk.text j = 10
           · have y4 : (((tk.text[j]'hjs).toNat : Int) == 10) = true := by rw [ebj, hten]; rfl
             go_wp2_with (fail); go_roundw
             case rel => exact ⟨j + 1, by go_num, by rw [cntTo, if_pos hten]; go_num, by omega, trivial⟩
             case measure => (simp [RowKit.intOf] <;> omega)
           · have y4 : (((tk.text[j]'hjs).toNat : Int) == 10) = false := by rw [ebj]; simp; omega
             go_wp2_with (fail); go_roundw
             case rel => exact ⟨j + 1, by go_num, by rw [cntTo, if_neg hten]; go_num, by omega, trivial⟩
             case measure => (simp [RowKit.intOf] <;> omega)
         · obtain rfl : j = n := by omega
           have y1 : ¬ (j : Int) < (j : Int) := by omega
           go_wp2_with (fail); go_roundw
           case rel => exact ⟨i + 1, by go_num, by rw [HS.out]; go_num, by rw [HSL.out, ← HL.out, ← HN.out]; go_num, by omega, below_then HBR.out (below_then HB0.out HS0.out HB0.out.size) HBR.out.size⟩
           case measure => (simp [RowKit.intOf] <;> omega)
      · refine wp_region_noPanic ?_
        refine wp_region_held_drew (S := fun w9 => Below wq.heap.size wq w9 ∧ w9.cell? ⟨g, i * 5, none⟩ = some (.int .i64 tk.rule)) (by kernel_rfl) (HSO.out _ (Below.refl _ wq).drew) (fun hS0 => ?_); refine held_t 0 hS0 ?_ ?_ (v := ?_); rotate_left
        · intro w9 hS9
          (try dsimp only at hS9); go_simp; (try with_reducible rfl)
        (try simp only [Act.put, lA, lB, lC]); refine held_t 1 hS0 ?_ ?_ (v := ?_); rotate_left
        · intro w9 hS9
          (try dsimp only at hS9); go_simp; (try with_reducible rfl)
        (try simp only [Act.put, lA, lB, lC]); refine held_t 2 hS0 ?_ ?_ (v := ?_); rotate_left
        · intro w9 hS9
          (try dsimp only at hS9); go_simp; (try with_reducible rfl)
        (try simp only [Act.put, lA, lB, lC]); refine held_t 3 hS0 ?_ ?_ (v := ?_); rotate_left
        · intro w9 hS9
          (try dsimp only at hS9); go_simp; (try with_reducible rfl)
        (try simp only [Act.put, lA, lB, lC]); refine held_t 4 hS0 ?_ ?_ (v := ?_); rotate_left
        · intro w9 hS9
          (try dsimp only at hS9); go_simp; (try with_reducible rfl)
        (try simp only [Act.put, lA, lB, lC]); refine held_t 5 hS0 ?_ ?_ (v := ?_); rotate_left
        · intro w9 hS9
          (try dsimp only at hS9); go_simp; (try with_reducible rfl)
        (try simp only [Act.put, lA, lB, lC]); refine held_t 6 hS0 ?_ ?_ (v := ?_); rotate_left
        · intro w9 hS9
          (try dsimp only at hS9); go_simp; (try with_reducible rfl)
        (try simp only [Act.put, lA, lB, lC]); refine held_t 7 hS0 ?_ ?_ (v := ?_); rotate_left
        · intro w9 hS9
          (try dsimp only at hS9); go_simp; (try with_reducible rfl)
        (try simp only [Act.put, lA, lB, lC]); refine held_t 8 hS0 ?_ ?_ (v := ?_); rotate_left
        · intro w9 hS9
          (try dsimp only at hS9); go_simp; (try with_reducible rfl)
        (try simp only [Act.put, lA, lB, lC]); refine held_t 9 hS0 ?_ ?_ (v := ?_); rotate_left
        · intro w9 hS9
          (try dsimp only at hS9); go_simp; (try with_reducible rfl)
        (try simp only [Act.put, lA, lB, lC]); refine held_t 10 hS0 ?_ ?_ (v := ?_); rotate_left
        · intro w9 hS9
          (try dsimp only at hS9); go_simp; (try with_reducible rfl)
        (try simp only [Act.put, lA, lB, lC]); refine held_t 11 hS0 ?_ ?_ (v := ?_); rotate_left
        · intro w9 hS9
          (try dsimp only at hS9); go_simp; (try with_reducible rfl)
        (try simp only [Act.put, lA, lB, lC]); refine held_t 12 hS0 ?_ ?_ (v := ?_); rotate_left
        · intro w9 hS9
          (try dsimp only at hS9); go_simp; (try with_reducible rfl)
        (try simp only [Act.put, lA, lB, lC]); refine held_step 13 (by rfl) (by kernel_rfl) (fun K hK => ?_); go_simp; go_at_call 14; refine (HR.out _).mono ?_; rintro e w3 ⟨g2, rfl, hrow2, hb2⟩; clear hrow2; refine hK.out _ _ (HSO.out _ (below_then hS0.1 hb2 hS0.1.size)) (fun hS1 => ?_); clear hK K hS0; have hS0 := hS1; clear hS1; (try simp only [Act.put, lA, lB, lC]); refine held_t 14 hS0 ?_ ?_ (v := ?_); rotate_left
        · intro w9 hS9
          (try dsimp only at hS9); go_simp; (try with_reducible rfl)
        (try simp only [Act.put, lA, lB, lC]); refine held_t 15 hS0 ?_ ?_ (v := ?_); rotate_left
        · intro w9 hS9
          (try dsimp only at hS9); go_simp; (try with_reducible rfl)
        (try simp only [Act.put, lA, lB, lC]); refine held_t 16 hS0 ?_ ?_ (v := ?_); rotate_left
        · intro w9 hS9
          (try dsimp only at hS9); go_simp; (try with_reducible rfl)
        (try simp only [Act.put, lA, lB, lC]); refine held_t 17 hS0 ?_ ?_ (v := ?_); rotate_left
        · intro w9 hS9
          (try dsimp only at hS9); go_simp; (try with_reducible rfl)
        (try simp only [Act.put, lA, lB, lC]); refine held_t 18 hS0 ?_ ?_ (v := ?_); rotate_left
        · intro w9 hS9
          (try dsimp only at hS9); go_simp; (try with_reducible rfl)
        (try simp only [Act.put, lA, lB, lC]); refine held_t 19 hS0 ?_ ?_ (v := ?_); rotate_left
        · intro w9 hS9
          (try dsimp only at hS9); go_simp; (try with_reducible rfl)
        (try simp only [Act.put, lA, lB, lC]); refine held_t 20 hS0 ?_ ?_ (v := ?_); rotate_left
        · intro w9 hS9
          (try dsimp only at hS9); go_simp; (try with_reducible rfl)
        (try simp only [Act.put, lA, lB, lC]); refine held_t 21 hS0 ?_ ?_ (v := ?_); rotate_left
        · intro w9 hS9
          (try dsimp only at hS9); go_simp; (try with_reducible rfl)
        (try simp only [Act.put, lA, lB, lC]); refine held_t 22 hS0 ?_ ?_ (v := ?_); rotate_left
        · intro w9 hS9
          (try dsimp only at hS9); go_simp; (try with_reducible rfl)
        (try simp only [Act.put, lA, lB, lC]); refine held_t 23 hS0 ?_ ?_ (v := ?_); rotate_left
        · intro w9 hS9
          (try dsimp only at hS9); go_simp; (try with_reducible rfl)
        (try simp only [Act.put, lA, lB, lC]); refine held_t 24 hS0 ?_ ?_ (v := ?_); rotate_left
        · intro w9 hS9
          (try dsimp only at hS9); go_simp; (try with_reducible rfl)
        (try simp only [Act.put, lA, lB, lC]); refine held_skip 25 (by rfl) (by kernel_rfl) (by kernel_rfl) (by kernel_rfl) (fun _ _ _ h => h) (by rfl) hS0 ?_; (try simp only [Act.put, lA, lB, lC]); refine held_skip 26 (by rfl) (by kernel_rfl) (by kernel_rfl) (by kernel_rfl) (fun _ _ _ h => h) (by rfl) hS0 ?_; (try simp only [Act.put, lA, lB, lC]); refine held_t 27 hS0 ?_ ?_ (v := ?_); rotate_left
        · intro w9 hS9
          (try dsimp only at hS9); go_simp; (try with_reducible rfl)
        (try simp only [Act.put, lA, lB, lC]); refine held_t 28 hS0 ?_ ?_ (v := ?_); rotate_left
        · intro w9 hS9
          (try dsimp only at hS9); go_simp; (try with_reducible rfl)
        (try simp only [Act.put, lA, lB, lC]); refine wpAnyH_done (by kernel_rfl) ?_ _; refine NoPanic.normal ?_; have hr5 := HR4.out _ hS0.1; have HS0 := Lib.hid hS0.1; have hgw3 : g < w3.heap.size := Nat.lt_of_lt_of_le hgq hS0.1.size; clear hS0; go_wp2_with (fail); go_loopw [9, 12] (fun s9 s12 wz => ∃ (j : Nat), s12 = .int .i64 j ∧ s9 = .int .i64 (L + cntTo tk.text j : Nat) ∧ j ≤ n ∧ wz = w3) (fun _ s12 _ => n - (RowKit.intOf s12).toNat)
        case atStart => exact ⟨0, rfl, rfl, Nat.zero_le _, rfl⟩
        case round =>
         obtain ⟨j, rfl, rfl, hj, rfl⟩ := hrel; by_cases hjl : j < n
         · have y1 : (j : Int) < (n : Int) := by omega
           have y2 : IntKind.i64.wrap ((j : Int) + 1) = (j : Int) + 1 := IntWalk.i64_in _ (by omega); have hcl := cntTo_le tk.text j; have y3 : IntKind.i64.wrap (((L + cntTo tk.text j : Nat) : Int) + 1) = ((L + cntTo tk.text j : Nat) : Int) + 1 := IntWalk.i64_in _ (by omega); have hjs : j < tk.text.size := by omega
           have ebj : (tk.text[j]'hjs).toNat = byt tk.text j := by
            unfold byt; simp only [ByteArray.get!]; rw [getElem!_pos _ _ (by simpa using hjs)]; rfl
           by_cases hten : byt tk.text j = 10
           · have y4 : (((tk.text[j]'hjs).toNat : Int) == 10) = true := by rw [ebj, hten]; rfl
             go_wp2_with (fail); go_roundw
             case rel => exact ⟨j + 1, by go_num, by rw [cntTo, if_pos hten]; go_num, by omega, trivial⟩
             case measure => (simp [RowKit.intOf] <;> omega)
           · have y4 : (((tk.text[j]'hjs).toNat : Int) == 10) = false := by rw [ebj]; simp; omega
             go_wp2_with (fail); go_roundw
             case rel => exact ⟨j + 1, by go_num, by rw [cntTo, if_neg hten]; go_num, by omega, trivial⟩
             case measure => (simp [RowKit.intOf] <;> omega)
         · obtain rfl : j = n := by omega
           have y1 : ¬ (j : Int) < (j : Int) := by omega
           go_wp2_with (fail); go_roundw
           case rel => exact ⟨i + 1, by go_num, by rw [HS.out]; go_num, by rw [HSL.out, ← HL.out, ← HN.out]; go_num, by omega, below_then HBR.out (below_then HB0.out HS0.out HB0.out.size) HBR.out.size⟩
           case measure => (simp [RowKit.intOf] <;> omega)
    · obtain rfl : i = l.length := by omega
      have hz : ¬ (l.length : Int) < (l.length : Int) := by omega
      have hall := HWH.out.all; have HB := Lib.hid (below_then H1.out.2 (below_then H2.out.2 hbr H2.out.2.size) H1.out.2.size); rw [hall]; clear hall hbr; go_wp2_with (fail); go_ret; exact ⟨rfl, HB.out⟩
end Go.Proofs.YtghpmhllpaheiaaGreatDoor
