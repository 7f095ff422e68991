/-
  Part of the proof: Ct2, Ct3. No condition beyond those in the statements.
-/
import Derived.Test.YtghpmhllpaheiaaGreatDoorK28
import Derived.Test.YtghpmhllpaheiaaGreatDoorK31
set_option linter.unusedVariables false
set_option linter.unusedSimpArgs false
namespace Go.Proofs.YtghpmhllpaheiaaGreatDoor
section
open Go.RowKit Go.Lib
def src2 (t m : ByteArray) (kind : Int) : Src := ⟨[⟨t, 0, kind⟩, ⟨m, 0, 0⟩], 0, 0⟩
theorem src2_ok {t m : ByteArray} {kind : Int} (h : t.size < 1000000) (h' : m.size < 1000000) (hk : 1 ≤ kind ∧ kind ≤ 5) : SrcOk (src2 t m kind) := by
 have hm : ∀ p ∈ (src2 t m kind).l, p = ⟨t, 0, kind⟩ ∨ p = ⟨m, 0, 0⟩ := fun p hp => by simpa [src2] using hp
 refine ⟨fun p hp => ?_, fun p hp => ?_, fun p hp => ?_, (by decide : (2 : Nat) < 1000000), (by decide : (0 : Nat) < 1000000), (by decide : 0 ≤ (0 : Int) ∧ (0 : Int) < 1000000000)⟩
 · rcases hm p hp with rfl | rfl
   · exact h
   · exact h'
 · rcases hm p hp with rfl | rfl
   · exact (by decide : -1000000000 < (0 : Int) ∧ (0 : Int) < 1000000000)
   · exact (by decide : -1000000000 < (0 : Int) ∧ (0 : Int) < 1000000000)
 · rcases hm p hp with rfl | rfl
   · show -1000000000 < kind ∧ kind < 1000000000
     omega
   · exact (by decide : -1000000000 < (0 : Int) ∧ (0 : Int) < 1000000000)
theorem src2_left (t m : ByteArray) (kind : Int) : leftS (src2 t m kind) = t.size + m.size := by
 show (t.size - 0) + ((m.size - 0) + 0) = t.size + m.size; omega
theorem empty_of {t : ByteArray} (h : t.size = 0) : ByteArray.empty = t := by
 have h9 := ByteArray.extract_zero_size (b := t); rw [h, ByteArray.extract_same] at h9; exact h9
theorem src2_stream (t m : ByteArray) (k : Nat) (hk : k < 5) : streamS (src2 t m (1 + (k : Int))) 0 = (t, if k = 0 ∨ k = 4 then 14 else 11) := by
 show streamL [⟨t, 0, 1 + (k : Int)⟩, ⟨m, 0, 0⟩] 0 0 0 = _; rw [streamL]; dsimp only
 rcases (by omega : k = 0 ∨ k = 1 ∨ k = 2 ∨ k = 3 ∨ k = 4) with rfl | rfl | rfl | rfl | rfl
 all_goals
  by_cases h : 0 < t.size
  · simp [h]
  · have h0 : t.size = 0 := by omega
    simp [h, empty_of h0]
theorem pieces_row (w : World) (t m : ByteArray) (kind : Int) : (w.alloc (.cells #[.string t, .int .i64 0, .int .i64 kind, .string m, .int .i64 0, .int .i64 0] 43)).ownsRow 0 43 3 (.slice (some ⟨w.heap.size, 0, none⟩) 2 2) 2 (pcCells [⟨t, 0, kind⟩, ⟨m, 0, 0⟩]) :=
 ⟨rfl, .inr ⟨w.heap.size, 2, #[.string t, .int .i64 0, .int .i64 kind, .string m, .int .i64 0, .int .i64 0], rfl, Nat.zero_le _, heap_new _ _ _ rfl, Nat.le_refl _, by unfold maxLen; omega, rfl, rfl⟩⟩
theorem newSrc2 (w : World) (t m : ByteArray) (kind : Int) : Calls Tryz.prog 20 #[.slice (some ⟨w.heap.size, 0, none⟩) 2 2] (w.alloc (.cells #[.string t, .int .i64 0, .int .i64 kind, .string m, .int .i64 0, .int .i64 0] 43)) fun e w' => ∃ sb, e = .returned (knotP sb) ∧ SrcAt w'.heap.size w' sb (src2 t m kind) ∧ w.heap.size ≤ sb ∧ Below w.heap.size w w' := by
 refine (newSource_any [⟨t, 0, kind⟩, ⟨m, 0, 0⟩] w.heap.size 2 (w.alloc (.cells #[.string t, .int .i64 0, .int .i64 kind, .string m, .int .i64 0, .int .i64 0] 43)) (by decide : 0 < 2) (by decide : 2 < 1000000) (pieces_row w t m kind)).mono ?_; rintro e w' ⟨sb, rfl, h1, h2, h3⟩; have hz : (w.alloc (.cells #[.string t, .int .i64 0, .int .i64 kind, .string m, .int .i64 0, .int .i64 0] 43)).heap.size = w.heap.size + 1 := by simp
 exact ⟨sb, rfl, h1, by omega, below_later ((Below.refl _ w).alloc (Nat.le_refl _) _) h3 (by omega)⟩
theorem told_pos (k : Nat) (hk : k ≠ 0) (w : World) (hE : ErrT w) (h0 : 0 < w.heap.size) : Calls Tryz.prog 23 #[.iface 51 (.int .i64 k)] w fun e w' => e = .returned (.tuple #[.int .i64 k, .int .i64 (-1), .int .i64 (-1)]) ∧ Below w.heap.size w w' := by
 have h := told_any k w hE h0; rw [errV_pos hk] at h; unfold toldV at h; rw [if_neg hk] at h; exact h
def longestP (l : List Tk) (k : Nat) : Nat := match l[k]? with | some t => t.text.size + 4 | none => 4
set_option maxRecDepth 100000 in
theorem longest_any (l : List Tk) (k : Nat) (hl : l.length ≤ 1000000) (hs : ∀ t ∈ l, t.text.size ≤ 1000000) (w : World) (B : Nat) (ao : Option Addr) (cap : Nat) (h : w.ownsRow B 28 5 (.slice ao l.length cap) l.length (tkCells l)) :
 Calls Tryz.prog 26 #[.slice ao l.length cap, .int .i64 k] w fun e w' => e = .returned (.int .i64 (longestP l k : Nat)) ∧ w' = w := by
 by_cases hk : k < l.length
 · have hz : (k : Int) < (l.length : Int) := by omega
   have htk := List.getElem?_eq_getElem hk; have hts := hs _ (List.mem_of_getElem? htk); obtain ⟨g, rfl⟩ := row_some h (by omega); obtain ⟨_, _, _, _, q4⟩ := tkCells_get l k _ htk; have r4 := row_cellB h _ _ q4; have gl := (row_lo h g rfl).2; have w1' : IntKind.i64.wrap (((l[k].text.size : Nat) : Int) + 4) = ((longestP l k : Nat) : Int) := by
    rw [IntWalk.i64_in _ (by omega)]; unfold longestP; rw [htk]; push_cast; rfl
   clear h q4 hts htk; go_enter Tryz.func26, Tryz.ntmps26; go_wp2_with (fail); go_ret; exact ⟨rfl, rfl⟩
 · have hz : ¬ (k : Int) < (l.length : Int) := by omega
   have e4 : ((longestP l k : Nat) : Int) = 4 := by
    unfold longestP; rw [List.getElem?_eq_none (by omega)]; rfl
   rw [e4]; clear h e4; go_enter Tryz.func26, Tryz.ntmps26; go_wp2_with (fail); go_ret; exact ⟨rfl, rfl⟩
end
section
open Go.RowKit Go.Lib
theorem left_ok {T : Tab} {n1 e e1 B : Nat} {m l : List Tk} {far : List Nat} (h : CutT T n1 e m e1 l) (hF : FarT T far B) (hne : m.length ≠ l.length) : n1 - atN m m.length ≤ (B + 1) + longestP l m.length := by
 rcases h.left far B hF with h1 | ⟨t, ht, h1⟩
 · exact absurd h1 hne
 · unfold longestP
   rw [ht]; exact h1
theorem atN_mono_le (l : List Tk) : ∀ i : Nat, i ≤ l.length → atN l i ≤ atN l l.length := by
 intro i hi; obtain ⟨d, hd⟩ : ∃ d, l.length = i + d := ⟨l.length - i, by omega⟩; have h : ∀ d, i + d ≤ l.length → atN l i ≤ atN l (i + d) := by
  intro d
  induction d with
  | zero => intro _; exact Nat.le_refl _
  | succ d ih =>
   intro h; have h1 := ih (by omega); have h2 := atN_succ (List.getElem?_eq_getElem (show i + d < l.length by omega)); rw [← Nat.add_assoc]; omega
 have := h d (by omega); rw [hd]; exact this
set_option maxRecDepth 100000 in
set_option maxHeartbeats 40000000 in
theorem cutLaw_any (c : Int) (hc : -9223372036854775808 ≤ c ∧ c ≤ 9223372036854775807) (t : ByteArray) (ht : t.size ≤ 140737488351232) (m : ByteArray) (hm : m.size ≤ 140737488351232) (d : Int) (hd : -9223372036854775808 ≤ d ∧ d ≤ 9223372036854775807) (w : World) (hG : Gl w) :
 Calls Tryz.prog 7 #[.int .i64 c, .string t, .string m, .int .i64 d] w fun e w' => e = .returned (.bool true) ∧ Below w.heap.size w w' := by
 have hk := pick_lt c 8 (by decide); have htab := tables_any c hc w hG; generalize pickP c 8 = k at hk htab; have hk5 := pick_lt d 5 (by decide); have hpk := fun w => pick_any d 5 hd (by decide) (by decide) w; generalize pickP d 5 = k5 at hk5 hpk; have hw0 : IntKind.i64.wrap ((t.size : Int) + (m.size : Int)) = (t.size : Int) + (m.size : Int) := IntWalk.i64_in _ (by omega); have HG := Lib.hid hG; have HK := Lib.hid hk; have HTAB := Lib.hid htab; have HPK := Lib.hid hpk; clear hG hk htab hpk hc hd ht hm; by_cases hbig : 2000 < t.size + m.size
 · have hd : (2000 : Int) < (t.size : Int) + (m.size : Int) := by omega
   clear hbig; go_enter Tryz.func7, Tryz.ntmps7; go_wp2_with (first | (go_at_call 12; refine (HTAB.out).mono ?_; rintro e w1 ⟨cb, rfl, hcm, hb1⟩; have H1 := Lib.hid (And.intro hcm hb1); clear hcm hb1)); go_ret; exact ⟨rfl, H1.out.2⟩
 · have hd : ¬ (2000 : Int) < (t.size : Int) + (m.size : Int) := by omega
   have HT2 := Lib.hid (show t.size + m.size ≤ 2000 by omega); clear hbig; have hsz : (t ++ m).size = t.size + m.size := size_app _ _; go_enter Tryz.func7, Tryz.ntmps7; go_upto_region 4 with (first | (go_at_call 12; refine (HTAB.out).mono ?_; rintro e w1 ⟨cb, rfl, hcm, hb1⟩; have H1 := Lib.hid (And.intro hcm hb1); clear hcm hb1))
   have hg1 := HG.out.later H1.out.2; have htk := tokens_all (wf_i HK.out) (t ++ m) (by have := HT2.out; omega) w1 hg1 H1.out.1; unfold ToksO at htk; obtain ⟨e, he⟩ : ∃ e, e = if k5 = 0 ∨ k5 = 4 then 14 else 11 := ⟨_, rfl⟩
   have hee : e = 14 ∨ e = 11 := by rw [he]; split <;> simp
   obtain ⟨L, hL⟩ : ∃ L, L = (idealL (tabOf k) 5000 13 3000 (t ++ m) 0 1 1).1 := ⟨_, rfl⟩; obtain ⟨M, hM⟩ : ∃ M, M = (idealL (tabOf k) 5000 e 3000 t 0 1 1).1 := ⟨_, rfl⟩; have hcut := cut_law (T := tabOf k) (C := 5000) (e := e) (wf_i HK.out) (by omega) 3000 t m 0 1 1 (by have := HT2.out; omega) (by have := HT2.out; omega); have he2 := hcut.err; rw [← hL, ← hM] at hcut; rw [← hL] at htk; have hszl : ∀ tk ∈ L, tk.text.size ≤ 2000 := fun tk h => by rw [hL] at h; have := ideal_sizes _ _ _ _ _ tk h; have := HT2.out; omega
   have hct : L.length ≤ 2000 := by rw [hL]; have := ideal_count (T := tabOf k) (C := 5000) (e := 13) 3000 (t ++ m) 0 1 1; have := HT2.out; omega
   have HTOK := Lib.hid htk; have HL := Lib.hid (And.intro hcut (And.intro hszl (And.intro hM (And.intro he2 he)))); have hml := hcut.len; have hms := hcut.size; have ht2 : t.size ≤ 2000 := by have := HT2.out; omega
   clear htk hg1 hszl hL hM he2 hcut he; go_upto_region 5 with (first | (go_at_call 13; refine (HTOK.out).mono ?_; rintro e9 w2 ⟨ao, cap, rfl, hrow, hb2⟩; have H2 := Lib.hid (And.intro hrow hb2); clear hrow hb2))
   have hcm2 := H1.out.1.later H2.out.2; have hb2 : Below w.heap.size w w2 := below_then H1.out.2 H2.out.2 H1.out.2.size; have hg2 := HG.out.later hb2; have hw5 : IntKind.i64.wrap (1 + (k5 : Int)) = 1 + (k5 : Int) := IntWalk.i64_in _ (by omega); have hns := newSrc2 w2 t m (1 + (k5 : Int)); have HNS := Lib.hid hns; have HCM2 := Lib.hid (And.intro hcm2 hb2); have HG2 := Lib.hid hg2; clear hns hcm2 hb2 hg2
   go_upto_region 6 with (first | (go_at_call 19; refine (HPK.out _).mono ?_; rintro e9 w3 ⟨rfl, rfl⟩) | (go_at_call 20; refine (HNS.out).mono ?_; rintro e9 w4 ⟨sb, rfl, ho⟩; have H4 := Lib.hid ho; clear ho))
   have hsc := scan_at (C := 5000) HCM2.out.1 HG2.out H4.out.2.2 H4.out.1 (src2_ok (by omega) (by have := HT2.out; omega) (by omega)) H4.out.2.1 (by decide) (by decide); have HSC := Lib.hid hsc; clear hsc; go_upto_region 9 with (first | (go_at_call 21; refine (HSC.out).mono ?_; rintro e9 w5 ⟨xb, rfl, ho⟩; have H5 := Lib.hid ho; clear ho))
   have hal := all_at (n := 3000) (e := e) (k := e) (wf_i HK.out) H5.out.1 HG2.out H5.out.2 (by rw [src2_stream _ _ _ hk5, HL.out.2.2.2.2]) (by rw [src2_left]; have := HT2.out; omega) HL.out.2.2.2.1 (by omega) (by decide) (by decide) (by decide) (by decide); rw [← HL.out.2.2.1] at hal; have HAL := Lib.hid hal; clear hal; go_upto_region 10 with (first | (go_at_call 22; refine (HAL.out).mono ?_; rintro e9 w6 ⟨ao6, cap6, y, hy, hwf, rfl, hrow6, hrd, hb6⟩; have H6 := Lib.hid (And.intro hy (And.intro hwf (And.intro hrow6 (And.intro hrd hb6)))); clear hy hwf hrow6 hrd hb6))
   have hg6 := HG2.out.below H6.out.2.2.2.2 HG2.out.size; have htd := told_pos e (by omega) w6 hg6.err hg6.pos; have HTD := Lib.hid htd; have HG6 := Lib.hid hg6; clear htd hg6; go_wp2_with (first | (go_at_call 23; refine (HTD.out).mono ?_; rintro e9 w7 ⟨rfl, hb7⟩; have H7 := Lib.hid hb7; clear hb7))
   go_loopw [21] (fun s21 wr => ∃ (i : Nat), s21 = .int .i64 i ∧ i ≤ 3 ∧ Rdy w3.heap.size w3.heap.size (tabOf k) 5000 xb y (.slice ao6 M.length cap6) wr ∧ Below w3.heap.size w3 wr ∧ ∀ g, (Value.slice ao6 M.length cap6).ownBlock = some g → wr.heap[g]? = w6.heap[g]?) (fun s21 _ => 3 - (RowKit.intOf s21).toNat)
   case atStart => exact ⟨0, rfl, by omega, H6.out.2.2.2.1.below H7.out, below_then H6.out.2.2.2.2 H7.out H6.out.2.2.2.2.size, fun g hg => H7.out.block g (row_lo H6.out.2.2.1 g hg).2⟩
   case round =>
    obtain ⟨i, rfl, hi, hrd, hbr, hkp⟩ := hrel; by_cases hlt : i < 3
    · have hz : (i : Int) < 3 := by omega
      have w2' : IntKind.i64.wrap ((i : Int) + 1) = (i : Int) + 1 := IntWalk.i64_in _ (by omega); have hgr := HG2.out.below hbr HG2.out.size; obtain ⟨bs, hx5, hnx⟩ := next_done (k := e) (wf_i HK.out) hrd hgr.tabs (by decide) (by decide) (by decide) H6.out.2.1 (by omega) H6.out.1; have HNX := Lib.hid hnx; have cx := cell_of _ _ 0 _ _ _ hx5; simp only [List.getElem?_toArray, List.getElem?_cons_zero] at cx; have lx := lt_of_some hx5; have HR := Lib.hid (And.intro hbr hkp); clear hnx hx5 hrd hbr hkp hgr
      go_upto_region 16 with (first | (go_at_call 25; refine (HNX.out).mono ?_; rintro e9 w8 ⟨rfl, ho⟩; have H8 := Lib.hid ho; clear ho))
      obtain ⟨W8, hW8⟩ : ∃ W8, w8.alloc (.cells #[.int .i64 0, .int .i64 0, .int .i64 0, .int .i64 0, .string ⟨#[]⟩] 28) = W8 := ⟨_, rfl⟩; obtain ⟨tb, htb⟩ : ∃ tb, tb = w8.heap.size := ⟨_, rfl⟩; have hb8 : Below w8.heap.size w8 W8 := by rw [← hW8]; exact (Below.refl _ w8).alloc (Nat.le_refl _) _
      have hc8 : W8.heap[tb]? = some (.cells #[.int .i64 0, .int .i64 0, .int .i64 0, .int .i64 0, .string ⟨#[]⟩] 28 (0, 0)) := by rw [← hW8, htb]; exact heap_new _ _ _ rfl
      rw [hW8, ← htb]; have HTB := Lib.hid htb; clear hW8 htb; have q0 := cell_of _ _ 0 _ _ _ hc8; have q1 := cell_of _ _ 1 _ _ _ hc8; have q2 := cell_of _ _ 2 _ _ _ hc8; have q3 := cell_of _ _ 3 _ _ _ hc8; have q4 := cell_of _ _ 4 _ _ _ hc8; simp only [List.getElem?_toArray, List.getElem?_cons_zero, List.getElem?_cons_succ] at q0 q1 q2 q3 q4; have l8 := lt_of_some hc8; have hbr8 : Below w3.heap.size w3 W8 := below_then (HR.out.1.trans H8.out.2.1) hb8 (by have := HR.out.1.size; have := H8.out.2.1.size; omega); have hg8 := HG2.out.below hbr8 HG2.out.size
      have htd8 := told_pos e (by omega) W8 hg8.err hg8.pos; have HTD8 := Lib.hid htd8; have HB8 := Lib.hid (And.intro hb8 hbr8); clear htd8 hg8 hb8 hbr8 hc8
      go_upto_region 17 with (first | (go_at_call 23; refine (HTD8.out).mono ?_; rintro e9 w9 ⟨rfl, hb9⟩; have d0 := (below_cell hb9 ⟨tb, 0, none⟩ l8).trans q0; have d1 := (below_cell hb9 ⟨tb, 1, none⟩ l8).trans q1; have d2 := (below_cell hb9 ⟨tb, 2, none⟩ l8).trans q2; have d3 := (below_cell hb9 ⟨tb, 3, none⟩ l8).trans q3; have d4 := (below_cell hb9 ⟨tb, 4, none⟩ l8).trans q4; have l9 := Nat.lt_of_lt_of_le l8 hb9.size; have H9 := Lib.hid hb9; clear hb9 q0 q1 q2 q3 q4))
      go_wp2_with (fail); go_roundw
      case rel =>
       refine ⟨i + 1, by go_num, by omega, (H8.out.1.below HB8.out.1).below H9.out, below_then HB8.out.2 H9.out HB8.out.2.size, fun g hg => ?_⟩; have h6 := (row_lo H6.out.2.2.1 g hg).2; have hr := HR.out.2 g hg; have h8 := H8.out.2.2 g hg; have hl : g < wr.heap.size := by
        have := lt_of_some (hr.trans (Array.getElem?_eq_getElem h6)); exact this
       have s8 := H8.out.2.1.size; have s9 := HB8.out.1.size; exact (H9.out.block g (by omega)).trans ((HB8.out.1.block g (by omega)).trans (h8.trans hr))
      case measure => (simp [RowKit.intOf] <;> omega)
    · have hz : ¬ (i : Int) < 3 := by omega
      have hrM := row_extB H6.out.2.2.1 hkp; have hrL := row_later H2.out.1 hbr fun g hg => (row_lo H2.out.1 g hg).2; have hcmr := HCM2.out.1.later hbr; have zl : ¬ (L.length : Int) < (M.length : Int) := by omega
      have hbnd := bound_i HK.out; have HRM := Lib.hid (And.intro hrM (And.intro hrL (And.intro hcmr (And.intro (below_then HCM2.out.2 hbr HCM2.out.2.size) hbnd)))); clear hrd hbr hkp hrM hrL hcmr hbnd; generalize wr = wq at HRM ⊢; have hloop : ∀ i, i < M.length → ∃ tk g f, M[i]? = some tk ∧ ao6 = some ⟨g, 0, none⟩ ∧ ao = some ⟨f, 0, none⟩ ∧ g < wq.heap.size ∧ f < wq.heap.size ∧ atN M (i + 1) = atN M i + tk.text.size ∧ tk.text.size ≤ 2000 ∧ (∀ (j : Nat) (u : Value), j < 5 → (tkCells M)[i * 5 + j]? = some u → wq.cell? ⟨g, i * 5 + j, none⟩ = some u ∧ wq.cell? ⟨f, i * 5 + j, none⟩ = some u) := by
       intro i hi; have hm := List.getElem?_eq_getElem hi; have hl : L[i]? = some M[i] := by
        have hs := HL.out.1.same; have h9 : M[i]? = (L.take M.length)[i]? := congrArg (·[i]?) hs; rw [List.getElem?_take, if_pos hi, hm] at h9; exact h9.symm
       obtain ⟨g, rfl⟩ := row_some HRM.out.1 (by omega); obtain ⟨f, rfl⟩ := row_some HRM.out.2.1 (by omega); refine ⟨M[i], g, f, hm, rfl, rfl, (row_lo HRM.out.1 g rfl).2, (row_lo HRM.out.2.1 f rfl).2, atN_succ hm, HL.out.2.1 _ (List.mem_of_getElem? hl), fun j u hj hu => ⟨row_cellB HRM.out.1 _ _ hu, ?_⟩⟩; obtain ⟨a0, a1, a2, a3, a4⟩ := tkCells_get M i _ hm; obtain ⟨b0, b1, b2, b3, b4⟩ := tkCells_get L i _ hl; refine row_cellB HRM.out.2.1 _ _ ?_
       rcases (by omega : j = 0 ∨ j = 1 ∨ j = 2 ∨ j = 3 ∨ j = 4) with rfl | rfl | rfl | rfl | rfl
       · exact b0.trans (a0.symm.trans hu)
       · exact b1.trans (a1.symm.trans hu)
       · exact b2.trans (a2.symm.trans hu)
       · exact b3.trans (a3.symm.trans hu)
       · exact b4.trans (a4.symm.trans hu)
      have HLP := Lib.hid hloop; clear hloop
      rcases hee with rfl | rfl
      all_goals
       go_wp2_with (fail); go_loopw [20, 27] (fun s20 s27 wr => ∃ (i : Nat), s27 = .int .i64 i ∧ s20 = .int .i64 (atN M i : Nat) ∧ i ≤ M.length ∧ Below wq.heap.size wq wr) (fun _ s27 _ => M.length - (RowKit.intOf s27).toNat)
       case atStart => exact ⟨0, rfl, by rw [atN_zero]; rfl, Nat.zero_le _, Below.refl _ _⟩
       case round =>
        obtain ⟨i, rfl, rfl, hi, hbr⟩ := hrel; by_cases hlt : i < M.length
        · have hz : (i : Int) < (M.length : Int) := by omega
          obtain ⟨tk, g, f, htk, rfl, rfl, gl, fl, hat, hts, hcs⟩ := HLP.out i hlt; obtain ⟨q0, q1, q2, q3, q4⟩ := tkCells_get M i tk htk; have r0 := (below_cell hbr ⟨g, i * 5, none⟩ gl).trans (hcs 0 _ (by decide) q0).1; have r1 := (below_cell hbr ⟨g, i * 5 + 1, none⟩ gl).trans (hcs 1 _ (by decide) q1).1; have r2 := (below_cell hbr ⟨g, i * 5 + 2, none⟩ gl).trans (hcs 2 _ (by decide) q2).1; have r3 := (below_cell hbr ⟨g, i * 5 + 3, none⟩ gl).trans (hcs 3 _ (by decide) q3).1; have r4 := (below_cell hbr ⟨g, i * 5 + 4, none⟩ gl).trans (hcs 4 _ (by decide) q4).1
          have s0 := (below_cell hbr ⟨f, i * 5, none⟩ fl).trans (hcs 0 _ (by decide) q0).2; have s1 := (below_cell hbr ⟨f, i * 5 + 1, none⟩ fl).trans (hcs 1 _ (by decide) q1).2; have s2 := (below_cell hbr ⟨f, i * 5 + 2, none⟩ fl).trans (hcs 2 _ (by decide) q2).2; have s3 := (below_cell hbr ⟨f, i * 5 + 3, none⟩ fl).trans (hcs 3 _ (by decide) q3).2; have s4 := (below_cell hbr ⟨f, i * 5 + 4, none⟩ fl).trans (hcs 4 _ (by decide) q4).2; have hmon := atN_mono_le M i hi
          have w1' : IntKind.i64.wrap ((atN M i : Int) + (tk.text.size : Int)) = (atN M i : Int) + (tk.text.size : Int) := IntWalk.i64_in _ (by omega); have w2' : IntKind.i64.wrap ((i : Int) + 1) = (i : Int) + 1 := IntWalk.i64_in _ (by omega); have HAT := Lib.hid hat; have HBR := Lib.hid hbr; clear q0 q1 q2 q3 q4 hbr htk hcs hat hmon; go_upto_region 24 with (fail)
          go_quiet (fail); go_wp2_with (fail); go_roundw
          case rel => exact ⟨i + 1, by go_num, by rw [HAT.out]; go_num, by omega, below_dn9 HBR.out _⟩
          case measure => (simp [RowKit.intOf] <;> omega)
        · obtain rfl : i = M.length := by omega
          have hz : ¬ (M.length : Int) < (M.length : Int) := by omega
          have hcmz := HRM.out.2.2.1.later hbr; have hrLz := row_later HRM.out.2.1 hbr fun g hg => (row_lo HRM.out.2.1 g hg).2; have HB := Lib.hid (below_then HRM.out.2.2.2.1 hbr HRM.out.2.2.2.1.size); have wl : IntKind.i64.wrap ((t.size : Int) - (atN M M.length : Int)) = ((t.size - atN M M.length : Nat) : Int) := by
           rw [IntWalk.i64_in _ (by omega)]; omega
          have zp : (0 : Int) ≤ ((t.size - atN M M.length : Nat) : Int) := by omega
          have hlf : t.size - atN M M.length ≤ 2000 := by omega
          rcases HRM.out.2.2.2.2 with hbd | ⟨B, hbd, hB, hF⟩
          · have hbc := bound_at hcmz (-1) hbd
            have HBC := Lib.hid hbc; clear hbc hbd hcmz hrLz hbr; generalize t.size - atN M M.length = lf at wl zp hlf ⊢; go_wp2_with (first | (go_at_call 18; refine (HBC.out).mono ?_; rintro e9 w9 ⟨rfl, rfl⟩)); go_ret; exact ⟨rfl, HB.out⟩
          · obtain ⟨b, hb⟩ : ∃ b : Nat, b = B + 1 := ⟨_, rfl⟩
            have hbc := bound_at hcmz (b : Int) (by rw [hbd, hb]; omega); have hlg := longest_any L M.length (by omega) (fun tk h => by have := HL.out.2.1 tk h; omega) wr _ ao cap hrLz; have hlgs : longestP L M.length ≤ 2004 := by
             unfold longestP; split
             · rename_i tk h9
               have := HL.out.2.1 tk (List.mem_of_getElem? h9); omega
             · omega
            have hleft : M.length = L.length ∨ t.size - atN M M.length ≤ b + longestP L M.length := by
             by_cases hne : M.length = L.length
             · exact .inl hne
             · exact .inr (by have := left_ok HL.out.1 hF hne; omega)
            have z3 : ¬ (b : Int) < 0 := by omega
            have hbs : b ≤ 1000 := by omega
            generalize longestP L M.length = lg at hlg hlgs hleft; generalize t.size - atN M M.length = lf at wl zp hlf hleft ⊢; have wg : IntKind.i64.wrap ((b : Int) + (lg : Int)) = (b : Int) + (lg : Int) := IntWalk.i64_in _ (by omega); have HBC := Lib.hid hbc; have HLG := Lib.hid hlg; clear hbc hbd hcmz hrLz hbr hlg hF hb; by_cases hle : lf ≤ b + lg
            · have zq : (lf : Int) ≤ (b : Int) + (lg : Int) := by omega
              go_wp2_with (first | (go_at_call 18; refine (HBC.out).mono ?_; rintro e9 w9 ⟨rfl, rfl⟩) | (go_at_call 26; refine (HLG.out).mono ?_; rintro e9 w9 ⟨rfl, rfl⟩)); go_ret; exact ⟨rfl, HB.out⟩
            · have zq : ¬ (lf : Int) ≤ (b : Int) + (lg : Int) := by omega
              have zs : ((M.length : Int) == (L.length : Int)) = true := by
               rcases hleft with h | h
               · simp [h]
               · omega
              go_wp2_with (first | (go_at_call 18; refine (HBC.out).mono ?_; rintro e9 w9 ⟨rfl, rfl⟩) | (go_at_call 26; refine (HLG.out).mono ?_; rintro e9 w9 ⟨rfl, rfl⟩)); go_ret; exact ⟨rfl, HB.out⟩
end
end Go.Proofs.YtghpmhllpaheiaaGreatDoor
