/-
  Part of the proof: Nr2. No condition beyond those in the statements.
-/
import Derived.Test.YtghpmhllpaheiaaGreatDoorK28
import Derived.Test.YtghpmhllpaheiaaGreatDoorK31
set_option linter.unusedVariables false
set_option linter.unusedSimpArgs false
namespace Go.Proofs.YtghpmhllpaheiaaGreatDoor
open Go.RowKit Go.Lib
set_option maxRecDepth 100000 in
set_option maxHeartbeats 40000000 in
theorem near_any (c : Int) (hc : -9223372036854775808 ≤ c ∧ c ≤ 9223372036854775807) (t : ByteArray) (w : World) (hG : Gl w) :
 Calls Tryz.prog 8 #[.int .i64 c, .string t] w fun e w' => e = .returned (.bool true) ∧ Below w.heap.size w w' := by
 have hk := pick_lt c 8 (by decide); have htab := tables_any c hc w hG; generalize pickP c 8 = k at hk htab; have HG := Lib.hid hG; have HK := Lib.hid hk; have HTAB := Lib.hid htab; clear hG hk htab; by_cases ht : 2000 < t.size
 · have hd : (2000 : Int) < (t.size : Int) := by omega
   clear hc ht; go_enter Tryz.func8, Tryz.ntmps8; go_wp2_with (first | (go_at_call 12; refine (HTAB.out).mono ?_; rintro e w1 ⟨cb, rfl, hcm, hb1⟩; have H1 := Lib.hid (And.intro hcm hb1); clear hcm hb1)); go_ret; exact ⟨rfl, H1.out.2⟩
 · have hd : ¬ (2000 : Int) < (t.size : Int) := by omega
   have HT2 := Lib.hid (show t.size ≤ 2000 by omega); clear hc ht; go_enter Tryz.func8, Tryz.ntmps8; go_upto_region 4 with (first | (go_at_call 12; refine (HTAB.out).mono ?_; rintro e w1 ⟨cb, rfl, hcm, hb1⟩; have H1 := Lib.hid (And.intro hcm hb1); clear hcm hb1))
   have hg1 := HG.out.later H1.out.2; have htk := tokens_all (wf_i HK.out) t HT2.out w1 hg1 H1.out.1; unfold ToksO at htk; obtain ⟨L, hL⟩ : ∃ L, L = (idealL (tabOf k) 5000 13 3000 t 0 1 1).1 := ⟨_, rfl⟩; rw [← hL] at htk; have hsz : ∀ tk ∈ L, tk.text.size ≤ 2000 := fun tk h => by rw [hL] at h; have := ideal_sizes _ _ _ _ _ tk h; have := HT2.out; omega
   have hct : L.length ≤ 2000 := by rw [hL]; have := ideal_count (T := tabOf k) (C := 5000) (e := 13) 3000 t 0 1 1; have := HT2.out; omega
   have HTOK := Lib.hid htk; have HL := Lib.hid (And.intro hL hsz); clear htk hg1 hsz hL; go_upto_region 5 with (first | (go_at_call 13; refine (HTOK.out).mono ?_; rintro e w2 ⟨ao, cap, rfl, hrow, hb2⟩; have H2 := Lib.hid (And.intro hrow hb2); clear hrow hb2))
   have hcm2 := H1.out.1.later H2.out.2; have hb2 : Below w.heap.size w w2 := below_then H1.out.2 H2.out.2 H1.out.2.size
   rcases bound_i HK.out with hbd | ⟨B, hbd, hB, hF⟩
   · have hbc := bound_at hcm2 (-1) hbd
     have HBC := Lib.hid hbc; have HB2 := Lib.hid hb2; clear hbc hbd hcm2 hb2; go_wp2_with (first | (go_at_call 18; refine (HBC.out).mono ?_; rintro e w3 ⟨rfl, rfl⟩)); go_ret; exact ⟨rfl, HB2.out⟩
   · obtain ⟨b, hb⟩ : ∃ b : Nat, b = B + 1 := ⟨_, rfl⟩
     have hbc := bound_at hcm2 (b : Int) (by rw [hbd, hb]; omega); have z1 : ((b : Int) == 0) = false := by simp; omega
     have z2 : ¬ (b : Int) < -1 := by omega
     have z3 : ¬ (b : Int) < 0 := by omega
     have hb1000 : b ≤ 1000 := by omega
     have HBC := Lib.hid hbc; have HBB := Lib.hid (And.intro hb hF); have HCM2 := Lib.hid (And.intro hcm2 hb2); have hlrow : ∀ i : Nat, i < L.length → ∃ tk g, L[i]? = some tk ∧ ao = some ⟨g, 0, none⟩ ∧ w2.cell? ⟨g, i * 5 + 4, none⟩ = some (.string tk.text) ∧ g < w2.heap.size := by
      intro i hi
      rcases H2.out.1.2 with ⟨e9, h9⟩ | ⟨g, c9, cur9, e9, _⟩
      · omega
      · have hao : ao = some ⟨g, 0, none⟩ := by simp at e9; exact e9.1
        subst hao; obtain ⟨_, _, _, _, q4⟩ := tkCells_get L i L[i] (List.getElem?_eq_getElem hi); exact ⟨L[i], g, List.getElem?_eq_getElem hi, rfl, row_cellB H2.out.1 _ _ q4, (row_lo H2.out.1 g rfl).2⟩
     have HLR := Lib.hid hlrow; clear hbc hbd hcm2 hb2 hF hb hB hlrow; go_wp2_with (first | (go_at_call 18; refine (HBC.out).mono ?_; rintro e w3 ⟨rfl, rfl⟩)); go_loopw [9, 10] (fun s9 s10 wr => ∃ (i m : Nat), s10 = .int .i64 i ∧ s9 = .int .i64 m ∧ i ≤ L.length ∧ 4 ≤ m ∧ m ≤ 2004 ∧ (∀ j tk, j < i → L[j]? = some tk → tk.text.size ≤ m) ∧ wr = w3) (fun _ s10 _ => L.length - (RowKit.intOf s10).toNat)
     case atStart => exact ⟨0, 4, rfl, rfl, Nat.zero_le _, by omega, by omega, fun j tk h => by omega, rfl⟩
     case round =>
      obtain ⟨i, m, rfl, rfl, hi, hm4, hm2, hall, rfl⟩ := hrel; have HALL := Lib.hid hall; clear hall; by_cases hlt : i < L.length
      · have hz : (i : Int) < (L.length : Int) := by omega
        obtain ⟨tk, g, htk, rfl, r4, gl⟩ := HLR.out i hlt; have hts := HL.out.2 tk (List.mem_of_getElem? htk); have HTK := Lib.hid htk; have w2' : IntKind.i64.wrap ((i : Int) + 1) = (i : Int) + 1 := IntWalk.i64_in _ (by omega); clear htk; by_cases hgt : m < tk.text.size
        · have y1 : (m : Int) < (tk.text.size : Int) := by omega
          go_wp2_with (fail); go_roundw
          case rel =>
           refine ⟨i + 1, tk.text.size, by go_num, rfl, by omega, by omega, by omega, fun j tk' hj h => ?_, trivial⟩
           rcases Nat.lt_or_ge j i with h1 | h1
           · have := HALL.out j tk' h1 h; omega
           · obtain rfl : j = i := by omega
             rw [HTK.out] at h; cases h; exact Nat.le_refl _
          case measure => (simp [RowKit.intOf] <;> omega)
        · have y1 : ¬ (m : Int) < (tk.text.size : Int) := by omega
          go_wp2_with (fail); go_roundw
          case rel =>
           refine ⟨i + 1, m, by go_num, rfl, by omega, hm4, hm2, fun j tk' hj h => ?_, trivial⟩
           rcases Nat.lt_or_ge j i with h1 | h1
           · exact HALL.out j tk' h1 h
           · obtain rfl : j = i := by omega
             rw [HTK.out] at h; cases h; omega
          case measure => (simp [RowKit.intOf] <;> omega)
      · obtain rfl : i = L.length := by omega
        have hz : ¬ (L.length : Int) < (L.length : Int) := by omega
        have hnear : idealL (tabOf k) (m + b) 13 3000 t 0 1 1 = idealL (tabOf k) 5000 13 3000 t 0 1 1 := by
         rw [HBB.out.1]; refine near_law (wf_i HK.out) HBB.out.2 3000 t 0 1 1 (by have := HT2.out; omega) fun tk htk => ?_; rw [← HL.out.1] at htk; obtain ⟨j, hj⟩ := List.getElem?_of_mem htk; exact HALL.out j tk (by
          rcases Nat.lt_or_ge j L.length with h | h
          · exact h
          · rw [List.getElem?_eq_none h] at hj; cases hj) hj
        have HN := Lib.hid hnear; have w1' : IntKind.i64.wrap ((m : Int) + (b : Int)) = ((m + b : Nat) : Int) := by rw [IntWalk.i64_in _ (by omega)]; omega
        have hg3 := HG.out.later HCM2.out.2; have HG3 := Lib.hid hg3; have hns := newSrc wr t 0 0; have HNS := Lib.hid hns; clear hnear hg3 hns; go_upto_region 17 with (first | (go_at_call 20; refine (HNS.out).mono ?_; rintro e w4 ⟨sb, rfl, ho⟩; have H4 := Lib.hid ho; clear ho))
        have hsc := scan_at (C := m + b) HCM2.out.1 HG3.out H4.out.2.2 H4.out.1 (src1_ok (t := t) (by have := HT2.out; omega)) H4.out.2.1 (by omega) (by omega); have HSC := Lib.hid hsc; clear hsc; go_upto_region 20 with (first | (go_at_call 21; refine (HSC.out).mono ?_; rintro e w5 ⟨xb, rfl, ho⟩; have H5 := Lib.hid ho; clear ho))
        have hal := all_at (n := 3000) (k := 13) (wf_i HK.out) H5.out.1 HG3.out H5.out.2 (src1_stream t) (by rw [show (⟨[⟨t, 0, 0⟩], 0, 0⟩ : Src) = src1 t from rfl, src1_left]; have := HT2.out; omega) (by rw [HN.out]; exact idealL_13 _ _ _ _ _ (by have := HT2.out; omega) (by have := HT2.out; omega)) (by decide) (by omega) (by omega) (by decide) (by decide); rw [HN.out, ← HL.out.1] at hal; have HAL := Lib.hid hal; clear hal
        go_upto_region 21 with (first | (go_at_call 22; refine (HAL.out).mono ?_; rintro e w6 ⟨ao6, cap6, y, hy, hwf, rfl, hrow6, hrd, hb6⟩; have H6 := Lib.hid (And.intro hrow6 hb6); clear hy hwf hrow6 hrd hb6))
        have hg6 := HG3.out.below H6.out.2 HG3.out.size; have htd := told13 w6 hg6.err hg6.pos; have HTD := Lib.hid htd; clear htd hg6; go_upto_region 22 with (first | (go_at_call 23; refine (HTD.out).mono ?_; rintro e w7 ⟨rfl, hb7⟩; have H7 := Lib.hid hb7; clear hb7))
        have hb37 : Below wr.heap.size wr w7 := below_then H6.out.2 H7.out H6.out.2.size; have hsame := same_any L (by omega) w7 _ _ ao ao6 cap cap6 (row_later H2.out.1 hb37 fun g hg => (row_lo H2.out.1 g hg).2) (row_later H6.out.1 H7.out fun g hg => (row_lo H6.out.1 g hg).2); have HSM := Lib.hid hsame; have HB := Lib.hid (below_then HCM2.out.2 hb37 HCM2.out.2.size); clear hsame hb37; go_wp2_with (first | (go_at_call 17; refine (HSM.out).mono ?_; rintro e w8 ⟨rfl, hb8⟩; have H8 := Lib.hid hb8; clear hb8)); go_ret; exact ⟨rfl, below_then HB.out H8.out HB.out.size⟩
end Go.Proofs.YtghpmhllpaheiaaGreatDoor
