/-
  Part of the proof: Nr1, Cp3, Ct1. No condition beyond those in the statements.
-/
import Derived.Test.YtghpmhllpaheiaaGreatDoorK25
import Derived.Test.YtghpmhllpaheiaaGreatDoorK27
set_option linter.unusedVariables false
set_option linter.unusedSimpArgs false
namespace Go.Proofs.YtghpmhllpaheiaaGreatDoor
section
open Go.RowKit Go.Lib
def widC (c : Int) : Nat := if c < 128 then 1 else if c < 2048 then 2 else if c < 65536 then 3 else 4
structure FarT (T : Tab) (far : List Nat) (B : Nat) : Prop where
 step : ∀ i k, 0 ≤ (T.goes.getD i []).getD k (-1) → widC (T.cuts.getD k 0) - 1 ≤ far.getD i 0 ∧ (T.rule.getD ((T.goes.getD i []).getD k (-1)).toNat (-1) < 0 → widC (T.cuts.getD k 0) + far.getD ((T.goes.getD i []).getD k (-1)).toNat 0 ≤ far.getD i 0)
 top : ∀ i, (i = 0 ∨ 0 ≤ T.rule.getD i (-1)) → far.getD i 0 ≤ B
 wid : (128 : Int) ∈ T.cuts ∧ (2048 : Int) ∈ T.cuts ∧ (65536 : Int) ∈ T.cuts
def farC (T : Tab) (far : List Nat) (B : Nat) : Bool :=
 (List.range T.goes.length).all (fun i => (List.range T.cuts.length).all fun k =>
  decide ((T.goes.getD i []).getD k (-1) < 0) || (decide (widC (T.cuts.getD k 0) - 1 ≤ far.getD i 0) && (decide (0 ≤ T.rule.getD ((T.goes.getD i []).getD k (-1)).toNat (-1)) || decide (widC (T.cuts.getD k 0) + far.getD ((T.goes.getD i []).getD k (-1)).toNat 0 ≤ far.getD i 0)))) &&
 (List.range T.goes.length).all (fun i => (!decide (i = 0) && decide (T.rule.getD i (-1) < 0)) || decide (far.getD i 0 ≤ B)) &&
 (decide (far.length = T.goes.length) && (decide ((128 : Int) ∈ T.cuts) && (decide ((2048 : Int) ∈ T.cuts) && decide ((65536 : Int) ∈ T.cuts))))
theorem far_of {T : Tab} {R : Nat} (hT : WfT T R) {far : List Nat} {B : Nat} (h : farC T far B = true) : FarT T far B := by
 simp only [farC, Bool.and_eq_true, List.all_eq_true, List.mem_range, Bool.or_eq_true, decide_eq_true_eq, Bool.not_eq_true', decide_eq_false_iff_not] at h; obtain ⟨⟨h1, h2⟩, h3, h4, h5, h6⟩ := h; refine ⟨fun i k hk => ?_, fun i hi => ?_, h4, h5, h6⟩
 · have hm := row_mem hk
   have hi : i < T.goes.length := by
    rcases Nat.lt_or_ge i T.goes.length with h | h
    · exact h
    · rw [List.getD_eq_getElem?_getD (l := T.goes), List.getElem?_eq_none h] at hk
      simp at hk
   have hkl : k < T.cuts.length := by rw [← hT.rows _ hm.1]; exact hm.2
   rcases h1 i hi k hkl with h | h
   · omega
   · refine ⟨h.1, fun hr => ?_⟩
     rcases h.2 with h' | h'
     · omega
     · exact h'
 · rcases Nat.lt_or_ge i T.goes.length with h | h
   · rcases h2 i h with h' | h'
     · rcases hi with hi | hi
       · exact absurd hi h'.1
       · omega
     · exact h'
   · rw [List.getD_eq_getElem?_getD, List.getElem?_eq_none (by omega)]
     exact Nat.zero_le _
theorem rise_lt {l : List Int} (h : l.Pairwise (· < ·)) {i j : Nat} (hij : i < j) (hj : j < l.length) : l.getD i 0 < l.getD j 0 := by
 have := List.pairwise_iff_getElem.1 h i j (by omega) hj hij; rw [List.getD_eq_getElem?_getD, List.getD_eq_getElem?_getD, List.getElem?_eq_getElem (by omega), List.getElem?_eq_getElem hj]; exact this
theorem cut_side {cuts : List Int} (hr : cuts.Pairwise (· < ·)) {v c : Int} (hv : v ∈ cuts) {j : Nat} (h1 : cuts.getD j 0 ≤ c) (h2 : j + 1 < cuts.length → c < cuts.getD (j + 1) 0) (hj : j < cuts.length) : c < v ↔ cuts.getD j 0 < v := by
 refine ⟨fun h => by omega, fun h => ?_⟩; obtain ⟨m, hm, rfl⟩ := List.getElem_of_mem hv; have e : cuts[m] = cuts.getD m 0 := by rw [List.getD_eq_getElem?_getD, List.getElem?_eq_getElem hm]; rfl
 rw [e] at h ⊢; have hjm : j < m := by
  rcases Nat.lt_or_ge j m with h' | h'
  · exact h'
  · rcases Nat.lt_or_eq_of_le h' with h'' | h''
    · have := rise_lt hr h'' hj; omega
    · subst h''; omega
 have hk := h2 (by omega)
 rcases Nat.lt_or_eq_of_le (show j + 1 ≤ m from hjm) with h' | h'
 · have := rise_lt hr h' hm; omega
 · subst h'; exact hk
theorem wid_cut {T : Tab} {far : List Nat} {B R : Nat} (hT : WfT T R) (hF : FarT T far B) {c : Int} {j : Nat} (h1 : T.cuts.getD j 0 ≤ c) (h2 : j + 1 < T.cuts.length → c < T.cuts.getD (j + 1) 0) (hj : j < T.cuts.length) : widC c = widC (T.cuts.getD j 0) := by
 have a := cut_side hT.rise hF.wid.1 h1 h2 hj; have b := cut_side hT.rise hF.wid.2.1 h1 h2 hj; have d := cut_side hT.rise hF.wid.2.2 h1 h2 hj; unfold widC; by_cases x1 : c < 128
 · rw [if_pos x1, if_pos (a.1 x1)]
 · rw [if_neg x1, if_neg (fun h => x1 (a.2 h))]
   by_cases x2 : c < 2048
   · rw [if_pos x2, if_pos (b.1 x2)]
   · rw [if_neg x2, if_neg (fun h => x2 (b.2 h))]
     by_cases x3 : c < 65536
     · rw [if_pos x3, if_pos (d.1 x3)]
     · rw [if_neg x3, if_neg (fun h => x3 (d.2 h))]
theorem wid_dec {T : Tab} {s : ByteArray} {set p : Nat} (h : goesOn T s set p = true) : widC (Utf8.decode s p).1 = (Utf8.decode s p).2 := by
 simp only [goesOn, Bool.and_eq_true, decide_eq_true_eq, Bool.not_eq_true', decide_eq_false_iff_not] at h; obtain ⟨x, k, hx, hh⟩ := decode_cases s p h.1 (fun e => h.2.2.1 (Prod.ext e.1 e.2)); rw [hx]; dsimp only; unfold widC
 rcases hh with ⟨rfl, h1⟩ | ⟨rfl, h1, h2, h3⟩ | ⟨rfl, h1, h2, h3, h4⟩ | ⟨rfl, h1, h2, h3⟩
 · rw [if_pos (by omega)]
 · rw [if_neg (by omega), if_pos (by omega)]
 · rw [if_neg (by omega), if_neg (by omega), if_pos (by omega)]
 · rw [if_neg (by omega), if_neg (by omega), if_neg (by omega)]
theorem far_run {T : Tab} {far : List Nat} {B R : Nat} (hT : WfT T R) (hF : FarT T far B) {s : ByteArray} : ∀ (f : Nat) (x : Run), x.alive + far.getD x.set 0 ≤ x.long + B → (runT T s f x).alive + far.getD (runT T s f x).set 0 ≤ (runT T s f x).long + B
 | 0, x, h => h
 | f + 1, x, h => by
  rw [runT]; split
  · rename_i hg
    refine far_run hT hF f _ ?_; have hw := wid_dec hg; simp only [goesOn, Bool.and_eq_true, decide_eq_true_eq] at hg; have hgo := hg.2.2.2; have hc := cutIdx_facts hT.rise hT.head (c := ((Utf8.decode s x.alive).1 : Int)) (by omega); have hwc := wid_cut hT hF hc.2.1 hc.2.2 hc.1; have hs := hF.step x.set (cutIdx T.cuts (Utf8.decode s x.alive).1) hgo; rw [← hwc, hw] at hs; rw [show (T.goes.getD x.set []).getD (cutIdx T.cuts (Utf8.decode s x.alive).1) (-1) = nextT T x.set (Utf8.decode s x.alive).1 from rfl] at hs; unfold stepT; generalize nextT T x.set (Utf8.decode s x.alive).1 = gt at hs hgo ⊢
    split
    · rename_i h0
      have := hF.top gt.toNat (.inr h0); show x.alive + _ + far.getD gt.toNat 0 ≤ x.alive + _ + B; omega
    · rename_i h0
      have := hs.2 (by omega); show x.alive + _ + far.getD gt.toNat 0 ≤ x.long + B; omega
  · exact h
theorem far_part {T : Tab} {far : List Nat} {B R : Nat} (hT : WfT T R) (hF : FarT T far B) {n m b0 b1 b2 set : Nat} (h0 : b0 < 256) (hb1 : b1 < 256) (hn : 0 < n) (h : partOk T set n m b0 b1 b2 = true) : n ≤ far.getD set 0 := by
 simp only [partOk, Bool.and_eq_true, decide_eq_true_eq, Bool.not_eq_true'] at h; obtain ⟨_, hf, hb⟩ := h; have hlead : 194 ≤ b0 ∧ b0 < 245 ∧ n < leadB b0 := by
  rcases Nat.lt_or_ge b0 194 with g | g
  · rw [full_other (.inl g) h0 hn] at hf; cases hf
  · rcases Nat.lt_or_ge b0 224 with g2 | g2
    · rw [full_lead2 g g2 hb1] at hf
      simp at hf; refine ⟨g, by omega, ?_⟩; unfold leadB; rw [if_neg (by omega), if_neg (by omega)]; omega
    · rcases Nat.lt_or_ge b0 240 with g3 | g3
      · have : ¬ 3 ≤ n := fun h => by rw [(full_lead3 g2 g3 hb1).2 (.inl h)] at hf; cases hf
        refine ⟨g, by omega, ?_⟩; unfold leadB; rw [if_neg (by omega), if_pos (by omega)]; omega
      · rcases Nat.lt_or_ge b0 245 with g4 | g4
        · have : ¬ 4 ≤ n := fun h => by rw [(full_lead4 g3 g4 hb1).2 (.inl h)] at hf; cases hf
          refine ⟨g, g4, ?_⟩; unfold leadB; rw [if_pos (by omega)]; omega
        · rw [full_other (.inr g4) h0 hn] at hf; cases hf
 unfold beginsN hitT at hb; rw [List.any_eq_true] at hb; obtain ⟨k, _, hk⟩ := hb; simp only [hitAt, Bool.and_eq_true, decide_eq_true_eq] at hk; obtain ⟨hgo, hle⟩ := hk; have hs := (hF.step set k hgo).1; have hm := row_mem hgo; have hkl : k < T.cuts.length := by rw [← hT.rows _ hm.1]; exact hm.2
 have hw := wid_cut hT hF (c := max ((bitsB n b0 b1 b2 * 64 ^ (leadB b0 - n) : Nat) : Int) (max (leastB (leadB b0) : Int) (T.cuts.getD k 0))) (j := k) (by omega) (fun h => by rw [if_pos h] at hle; omega) hkl; rw [← hw] at hs; have hup : max ((bitsB n b0 b1 b2 * 64 ^ (leadB b0 - n) : Nat) : Int) (max (leastB (leadB b0) : Int) (T.cuts.getD k 0)) < ((bitsB n b0 b1 b2 + 1) * 64 ^ (leadB b0 - n) : Nat) := by omega
 have hlo : (leastB (leadB b0) : Int) ≤ max ((bitsB n b0 b1 b2 * 64 ^ (leadB b0 - n) : Nat) : Int) (max (leastB (leadB b0) : Int) (T.cuts.getD k 0)) := by omega
 generalize max ((bitsB n b0 b1 b2 * 64 ^ (leadB b0 - n) : Nat) : Int) (max (leastB (leadB b0) : Int) (T.cuts.getD k 0)) = c at hs hup hlo; have key : leadB b0 ≤ widC c := by
  have hl : leadB b0 = 2 ∨ leadB b0 = 3 ∨ leadB b0 = 4 := by unfold leadB; split <;> (try split) <;> omega
  unfold leastB at hlo; unfold widC
  rcases hl with e | e | e
  · rw [e] at hlo ⊢; simp at hlo
    rw [if_neg (by omega)]
    repeat' split
    all_goals omega
  · rw [e] at hlo ⊢; simp at hlo
    rw [if_neg (by omega), if_neg (by omega)]
    repeat' split
    all_goals omega
  · rw [e] at hlo ⊢; simp at hlo
    rw [if_neg (by omega), if_neg (by omega), if_neg (by omega)]; omega
 omega
theorem far_alive {T : Tab} {far : List Nat} {B R : Nat} (hT : WfT T R) (hF : FarT T far B) (s : ByteArray) : aliveT T s (runT T s (s.size + 1) run0) ≤ (runT T s (s.size + 1) run0).long + B := by
 have h0 : run0.alive + far.getD run0.set 0 ≤ run0.long + B := by
  have := hF.top 0 (.inl rfl); show 0 + far.getD 0 0 ≤ 0 + B; omega
 have h := far_run hT hF (s := s) (s.size + 1) run0 h0; generalize runT T s (s.size + 1) run0 = y at h ⊢; have hp : partT T s y.set y.alive ≤ far.getD y.set 0 := by
  unfold partT partN; split
  · rename_i k1
    split
    · rename_i k2
      split
      · rename_i k3
        exact far_part hT hF (byt_lt _ _) (byt_lt _ _) (by decide) k3
      · exact far_part hT hF (byt_lt _ _) (byt_lt _ _) (by decide) k2
    · exact far_part hT hF (byt_lt _ _) (byt_lt _ _) (by decide) k1
  · exact Nat.zero_le _
 unfold aliveT; omega
theorem runT_z {T : Tab} {s : ByteArray} : ∀ (f : Nat) (x : Run), (x.rule < 0 → x.long = 0) → (runT T s f x).rule < 0 → (runT T s f x).long = 0
 | 0, x, h => h
 | f + 1, x, h => by
  rw [runT]; split
  · refine runT_z f _ ?_
    unfold stepT; split
    · intro hr
      have : T.rule.getD (nextT T x.set (Utf8.decode s x.alive).1).toNat (-1) < 0 := hr; omega
    · exact h
  · exact h
theorem ideal_long {T : Tab} {C e len : Nat} {s : ByteArray} {rule : Int} (h : idealT T C s e = .tok rule len) : (runT T s (s.size + 1) run0).long ≤ len := by
 have hz := runT_z (T := T) (s := s) (s.size + 1) run0 (fun _ => rfl); unfold idealT at h; generalize runT T s (s.size + 1) run0 = y at h hz ⊢; dsimp only at h; split at h
 · cases h
 · split at h
   · cases h
   · split at h
     · cases h
     · split at h
       · split at h
         · cases h
         · rename_i hr _
           rw [hz hr]; exact Nat.zero_le _
       · cases h; exact Nat.le_refl _
theorem ideal_cap {T : Tab} {C C2 e : Nat} {s : ByteArray} (h1 : aliveT T s (runT T s (s.size + 1) run0) < C) (h2 : aliveT T s (runT T s (s.size + 1) run0) < C2) : idealT T C s e = idealT T C2 s e := by
 unfold idealT; dsimp only; rw [if_neg (show ¬ C ≤ aliveT T s (runT T s (s.size + 1) run0) by omega), if_neg (show ¬ C2 ≤ aliveT T s (runT T s (s.size + 1) run0) by omega)]
theorem near_law {T : Tab} {far : List Nat} {B R C long : Nat} (hT : WfT T R) (hF : FarT T far B) : ∀ (n : Nat) (s : ByteArray) (pos line col : Int), s.size < C → (∀ t ∈ (idealL T C 13 n s pos line col).1, t.text.size ≤ long) →
 idealL T (long + (B + 1)) 13 n s pos line col = idealL T C 13 n s pos line col
 | 0, s, pos, line, col, _, _ => rfl
 | n + 1, s, pos, line, col, hC, hl => by
  have hle := runT_le (T := T) (s := s) (s.size + 1) run0 (Nat.zero_le _); have hal := aliveT_le (T := T) (s := s) (x := runT T s (s.size + 1) run0) hle.1; have hL := runT_long1 (T := T) (s := s) (s.size + 1) run0 run0_long; have hfa := far_alive hT hF s; have hlong : (runT T s (s.size + 1) run0).long ≤ long := by
   cases hR : idealT T C s 13 with
   | err k =>
    have h0 := (idealT_end hC hR).2; have := hL.1; omega
   | tok rule len =>
    have h1 := ideal_long hR; have hz := size_pre s len (idealT_len (rule' := 0) hR).2; have h2 := hl ⟨rule, pos, line, col, s.extract 0 len⟩ (by rw [idealL, hR]; exact List.mem_cons_self); dsimp only at h2; omega
  have hc := ideal_cap (T := T) (C := long + (B + 1)) (C2 := C) (e := 13) (s := s) (by omega) (by omega); rw [idealL] at hl ⊢; rw [idealL, hc]; cases hR : idealT T C s 13 with
  | err k => rfl
  | tok rule len =>
   rw [hR] at hl; dsimp only at hl ⊢; have hz := size_sub s len s.size (Nat.le_refl _); rw [near_law hT hF n _ _ _ _ (by omega) (fun t ht => hl t (List.mem_cons_of_mem _ ht))]
end
section
open Go.RowKit Go.Lib
def farOf (k : Nat) : List Nat :=
 match cpd (rulesP k) 1000 100000 with
 | none => []
 | some c => c.b2.far.map Int.toNat
def boundC (k : Nat) : Bool := decide ((tabOf k).bound = -1) || (decide (1 ≤ (tabOf k).bound) && (decide ((tabOf k).bound ≤ 1000) && farC (tabOf k) (farOf k) ((tabOf k).bound.toNat - 1)))
theorem bound_i {k : Nat} (hk : k < 8) : (tabOf k).bound = -1 ∨ ∃ B : Nat, (tabOf k).bound = (B : Int) + 1 ∧ B < 1000 ∧ FarT (tabOf k) (farOf k) B := by
 have h : boundC k = true := by
  have h8 : ∀ j : Fin 8, boundC j.val = true := by decide +kernel
  exact h8 ⟨k, hk⟩
 simp only [boundC, Bool.or_eq_true, Bool.and_eq_true, decide_eq_true_eq] at h
 rcases h with h | ⟨h1, h2, h3⟩
 · exact .inl h
 · exact .inr ⟨(tabOf k).bound.toNat - 1, by omega, by omega, far_of (comp_i k hk).1 h3⟩
end
section
open Go.RowKit Go.Lib
theorem ideal_err {T : Tab} {C e k : Nat} {s : ByteArray} (hC : s.size < C) (he : e ≠ 13) (h : idealT T C s e = .err k) : k = e ∧ (aliveT T s (runT T s (s.size + 1) run0) = s.size ∨ s.size ≤ 3) := by
 have hle := runT_le (T := T) (s := s) (s.size + 1) run0 (Nat.zero_le _); have hal := aliveT_le (T := T) (s := s) (x := runT T s (s.size + 1) run0) hle.1; unfold idealT at h; dsimp only at h; rw [if_neg (by omega)] at h; split at h
 · rename_i h1
   cases h; exact ⟨rfl, .inl h1.1⟩
 · rename_i h1
   split at h
   · rename_i h2
     exact absurd ⟨by omega, he⟩ h1
   · split at h
     · split at h
       · rename_i h3
         cases h; exact ⟨rfl, .inr (not_full_size h3.1)⟩
       · cases h
     · cases h
theorem ideal_ahead {T : Tab} {R C e len : Nat} {s more : ByteArray} {rule : Int} (hT : WfT T R) (hC : (s ++ more).size < C) (he : e ≠ 13) (h : idealT T C s e = .tok rule len) : idealT T C (s ++ more) 13 = .tok rule len := by
 have hsz : (s ++ more).size = s.size + more.size := size_app _ _; have hle := runT_le (T := T) (s := s) (s.size + 1) run0 (Nat.zero_le _); have hal := aliveT_le (T := T) (s := s) (x := runT T s (s.size + 1) run0) hle.1; have hle2 := runT_le (T := T) (s := s ++ more) ((s ++ more).size + 1) run0 (Nat.zero_le _); have hal2 := aliveT_le (T := T) (s := s ++ more) (x := runT T (s ++ more) ((s ++ more).size + 1) run0) hle2.1; have hp := pre_append s more
 have hsame := alive_same (T := T) hT (s := s ++ more) (m := s.size) (f := s.size + 1) (g := (s ++ more).size + 1) (x := run0) (by omega) (Nat.zero_le _) (by omega) (by omega); rw [hp] at hsame; unfold idealT at h ⊢; dsimp only at h ⊢; rw [if_neg (by omega)] at h ⊢; split at h
 · cases h
 · rename_i h1
   have hlt : aliveT T s (runT T s (s.size + 1) run0) < s.size := by
    rcases Nat.lt_or_ge (aliveT T s (runT T s (s.size + 1) run0)) s.size with g | g
    · exact g
    · exact absurd ⟨by omega, he⟩ h1
   obtain ⟨hY, ha⟩ := hsame hlt; rw [hY, if_neg (by simp), if_neg (by omega)]; rw [if_neg (by omega)] at h; split at h
   · rename_i hr
     rw [if_pos hr, if_neg (by simp)]; split at h
     · cases h
     · rename_i h3
       cases h; have hf : fullP s 0 = true := by
        cases hf : fullP s 0 with
        | true => rfl
        | false => exact absurd ⟨hf, he⟩ h3
       have hd := decode_pre (s := s ++ more) (m := s.size) (p := 0) (by omega) (by omega) (by rw [hp]; exact hf); rw [hp] at hd; rw [hd]
   · rename_i hr
     rw [if_neg hr]; exact h
structure CutT (T : Tab) (n1 e : Nat) (m : List Tk) (e1 : Nat) (l : List Tk) : Prop where
 err : e1 = e
 len : m.length ≤ l.length
 same : m = l.take m.length
 size : atN m m.length ≤ n1
 left : ∀ (far : List Nat) (B : Nat), FarT T far B → m.length = l.length ∨ ∃ t, l[m.length]? = some t ∧ n1 - atN m m.length ≤ (B + 1) + (t.text.size + 4)
theorem cut_law {T : Tab} {R C e : Nat} (hT : WfT T R) (he : e ≠ 13) : ∀ (n : Nat) (s more : ByteArray) (pos line col : Int), (s ++ more).size < C → (s ++ more).size < n →
 CutT T s.size e (idealL T C e n s pos line col).1 (idealL T C e n s pos line col).2 (idealL T C 13 n (s ++ more) pos line col).1
 | 0, s, more, pos, line, col, _, h => by omega
 | n + 1, s, more, pos, line, col, hC, hn => by
  have hsz : (s ++ more).size = s.size + more.size := size_app _ _; cases hR : idealT T C s e with
  | err k =>
   obtain ⟨rfl, hk⟩ := ideal_err (by omega) he hR; rw [idealL, hR]; dsimp only; refine ⟨rfl, Nat.zero_le _, rfl, ?_, fun far B hF => ?_⟩
   · show atN [] 0 ≤ s.size
     rw [atN_zero]; exact Nat.zero_le _
   · rw [idealL]
     cases hR2 : idealT T C (s ++ more) 13 with
     | err k2 => exact .inl rfl
     | tok rule len =>
      refine .inr ⟨_, rfl, ?_⟩; show s.size - atN [] 0 ≤ (B + 1) + (((s ++ more).extract 0 len).size + 4); rw [atN_zero, size_pre _ _ (idealT_len (rule' := 0) hR2).2]
      rcases hk with hk | hk
      · have hm := alive_mono (T := T) hT (s := s ++ more) (m := s.size) (f := s.size + 1) (g := (s ++ more).size + 1) (x := run0) (by omega) (Nat.zero_le _) (by omega) (by omega)
        rw [pre_append] at hm; have hfa := far_alive hT hF (s ++ more); have hlo := ideal_long hR2; omega
      · omega
  | tok rule len =>
   have ha := ideal_ahead (more := more) hT hC he hR; have hl := idealT_len (rule' := 0) hR; have e1 : (s ++ more).extract 0 len = s.extract 0 len := ext_pre hl.2; have e2 : (s ++ more).extract len (s ++ more).size = s.extract len s.size ++ more := ext_suf hl.2; rw [idealL, idealL, hR, ha]; dsimp only; rw [e1, e2]; have hz := size_sub s len s.size (Nat.le_refl _); have hz0 := size_pre s len hl.2; have hsz2 : (s.extract len s.size ++ more).size = (s.extract len s.size).size + more.size := size_app _ _
   have ih := cut_law (T := T) (C := C) hT he n (s.extract len s.size) more (pos + len) (tokPos (s.extract 0 len) (len + 1) 0 line col).1 (tokPos (s.extract 0 len) (len + 1) 0 line col).2 (by omega) (by omega); generalize (idealL T C e n (s.extract len s.size) (pos + len) (tokPos (s.extract 0 len) (len + 1) 0 line col).1 (tokPos (s.extract 0 len) (len + 1) 0 line col).2) = p at ih ⊢; generalize (idealL T C 13 n (s.extract len s.size ++ more) (pos + len) (tokPos (s.extract 0 len) (len + 1) 0 line col).1 (tokPos (s.extract 0 len) (len + 1) 0 line col).2) = q at ih ⊢
   have hsum : atN (⟨rule, pos, line, col, s.extract 0 len⟩ :: p.1) (p.1.length + 1) = len + atN p.1 p.1.length := by rw [atN_cons, hz0]
   have hih := ih.size; refine ⟨ih.err, by simp only [List.length_cons]; have := ih.len; omega, ?_, ?_, fun far B hF => ?_⟩
   · rw [List.length_cons, List.take_succ_cons, ← ih.same]
   · rw [List.length_cons, hsum]; omega
   · rcases ih.left far B hF with h | ⟨t, ht, h⟩
     · exact .inl (by rw [List.length_cons, List.length_cons, h])
     · refine .inr ⟨t, by rw [List.length_cons, List.getElem?_cons_succ]; exact ht, ?_⟩
       rw [List.length_cons, hsum]; omega
end
end Go.Proofs.YtghpmhllpaheiaaGreatDoor
