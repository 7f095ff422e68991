/-
  Part of the proof: Pc1, Pc2. No condition beyond those in the statements.
-/
import Derived.Test.YtghpmhllpaheiaaGreatDoorK28
set_option linter.unusedVariables false
set_option linter.unusedSimpArgs false
namespace Go.Proofs.YtghpmhllpaheiaaGreatDoor
section
open Go.RowKit Go.Lib
def IntsAt (w : World) (ao : Option Addr) (n : Nat) : Prop := ∀ i, i < n → ∃ z b off, ao = some ⟨b, off, none⟩ ∧ w.cell? ⟨b, off + i, none⟩ = some (.int .i64 z) ∧ b < w.heap.size ∧ -9223372036854775808 ≤ z ∧ z ≤ 9223372036854775807
def catP (ps : List Pc) : ByteArray := ps.foldr (fun p b => p.text ++ b) ByteArray.empty
theorem catP_snoc (ps : List Pc) (p : Pc) : catP (ps ++ [p]) = catP ps ++ p.text := by
 induction ps with
 | nil => simp [catP]
 | cons a r ih =>
  show a.text ++ catP (r ++ [p]) = (a.text ++ catP r) ++ p.text; rw [ih, ByteArray.append_assoc]
theorem catP_cons (p : Pc) (r : List Pc) : catP (p :: r) = p.text ++ catP r := rfl
def PcOk (p : Pc) : Prop := 0 < p.text.size ∧ p.kind = 0 ∧ 0 ≤ p.n ∧ p.n ≤ 1
theorem stream_last (t : ByteArray) (k : Nat) (hk : k ≤ 1) : streamL [⟨t, 0, 0⟩] 0 0 k = (t, 13) := by
 rw [streamL]; dsimp only; by_cases h : 0 < t.size
 · simp [h, streamL]
 · have h0 : t.size = 0 := by omega
   have e := ByteArray.extract_zero_size (b := t); rw [h0, ByteArray.extract_same] at e; rw [if_neg h, if_neg (by simp; omega), if_neg (by decide), if_neg (by decide), streamL, e]
theorem stream_pcs (t : ByteArray) : ∀ (ps : List Pc) (k : Nat), k ≤ 1 → (∀ p ∈ ps, PcOk p) → streamL (ps ++ [⟨t, 0, 0⟩]) 0 0 k = (catP ps ++ t, 13)
 | [], k, hk, _ => by
  show streamL [⟨t, 0, 0⟩] 0 0 k = _; rw [stream_last t k hk]; simp [catP]
 | p :: r, k, hk, h => by
  obtain ⟨h1, h2, h3, h4⟩ := h p List.mem_cons_self; show streamL (p :: (r ++ [⟨t, 0, 0⟩])) 0 0 k = _; rw [streamL, if_pos h1, if_neg (by omega), if_neg (by omega), if_neg (by omega), if_neg (by omega), stream_pcs t r _ (by omega) (fun q hq => h q (List.mem_cons_of_mem _ hq)), ByteArray.extract_zero_size, catP_cons, ByteArray.append_assoc]
theorem left_pcs (t : ByteArray) : ∀ (ps : List Pc), leftL (ps ++ [⟨t, 0, 0⟩]) 0 = (catP ps ++ t).size
 | [] => by
  show (t.size - 0) + 0 = (catP [] ++ t).size; simp [catP]
 | p :: r => by
  show (p.text.size - 0) + leftL (r ++ [⟨t, 0, 0⟩]) 0 = _; rw [left_pcs t r, catP_cons, ByteArray.append_assoc, size_app p.text]; omega
theorem pcs_ok {t : ByteArray} {ps : List Pc} (h : ∀ p ∈ ps, PcOk p) (hs : (catP ps ++ t).size ≤ 2000) (hl : ps.length ≤ 100) : SrcOk ⟨ps ++ [⟨t, 0, 0⟩], 0, 0⟩ := by
 have hsz : ∀ (ps : List Pc), ∀ p ∈ ps, p.text.size ≤ (catP ps).size := by
  intro ps
  induction ps with
  | nil => intro p hp; cases hp
  | cons a r ih =>
   intro p hp; rw [catP_cons, size_app]
   rcases List.mem_cons.1 hp with rfl | hp
   · omega
   · have := ih p hp; omega
 rw [size_app] at hs; have hm : ∀ p ∈ ps ++ [(⟨t, 0, 0⟩ : Pc)], p ∈ ps ∨ p = ⟨t, 0, 0⟩ := fun p hp => by simpa using hp
 refine ⟨fun p hp => ?_, fun p hp => ?_, fun p hp => ?_, ?_, (by decide : (0 : Nat) < 1000000), (by decide : 0 ≤ (0 : Int) ∧ (0 : Int) < 1000000000)⟩
 · rcases hm p hp with hp | rfl
   · have := hsz ps p hp; omega
   · show t.size < 1000000; omega
 · rcases hm p hp with hp | rfl
   · have := h p hp; unfold PcOk at this; omega
   · exact (by decide : -1000000000 < (0 : Int) ∧ (0 : Int) < 1000000000)
 · rcases hm p hp with hp | rfl
   · have := h p hp; unfold PcOk at this; omega
   · exact (by decide : -1000000000 < (0 : Int) ∧ (0 : Int) < 1000000000)
 · show (ps ++ [(⟨t, 0, 0⟩ : Pc)]).length < 1000000
   simp; omega
structure PsSt (t : ByteArray) (w0 : World) (i : Nat) (ps : List Pc) (rest : ByteArray) (v : Value) (w : World) : Prop where
 ok : ∀ p ∈ ps, PcOk p
 all : catP ps ++ rest = t
 len : ps.length ≤ i
 row : w.ownsRow 0 43 3 v ps.length (pcCells ps)
 lo : ∀ g, v.ownBlock = some g → w0.heap.size ≤ g
 below : Below w0.heap.size w0 w
theorem PsSt.app {t : ByteArray} {w0 : World} {i : Nat} {ps : List Pc} {rest : ByteArray} {v v' : Value} {w w' : World} {o : Obj} (h : PsSt t w0 i ps rest v w) {q : Nat} {z : Int} (hq : 0 < q) (hqr : q ≤ rest.size) (hz : 0 ≤ z ∧ z ≤ 1)
 (hrow : w'.ownsRow 0 43 3 v' (ps.length + 1) (pcCells ps ++ [.string (rest.extract 0 q), .int .i64 z, .int .i64 0])) (hg : (w.alloc o).grownBy w' v.ownBlock) (hb : v'.ownBlock = v.ownBlock ∨ v'.ownBlock = some (w.alloc o).heap.size) :
 PsSt t w0 (i + 1) (ps ++ [⟨rest.extract 0 q, z, 0⟩]) (rest.extract q rest.size) v' w' := by
 have hs := h.below.size; refine ⟨fun p hp => ?_, ?_, ?_, ?_, ?_, ?_⟩
 · rcases List.mem_append.1 hp with hp | hp
   · exact h.ok p hp
   · rw [List.mem_singleton] at hp
     subst hp; exact ⟨by show 0 < (rest.extract 0 q).size; rw [size_pre rest q hqr]; exact hq, rfl, hz⟩
 · rw [catP_snoc, ByteArray.append_assoc, ByteArray.extract_append_extract, ← h.all]
   congr 1; rw [show min 0 q = 0 by omega, show max q rest.size = rest.size by omega]; exact ByteArray.extract_zero_size
 · rw [List.length_append, List.length_singleton]
   have := h.len; omega
 · rw [List.length_append, List.length_singleton]
   have e : pcCells (ps ++ [⟨rest.extract 0 q, z, 0⟩]) = pcCells ps ++ [.string (rest.extract 0 q), .int .i64 z, .int .i64 0] := by simp [pcCells]
   rw [e]; exact hrow
 · exact block_of_append hb h.lo (by simp; omega)
 · exact below_append (h.below.alloc hs o) hg (by simp; omega) h.lo
theorem PsSt.skip {t : ByteArray} {w0 : World} {i : Nat} {ps : List Pc} {rest : ByteArray} {v : Value} {w : World} (h : PsSt t w0 i ps rest v w) : PsSt t w0 (i + 1) ps rest v w :=
 ⟨h.ok, h.all, Nat.le_succ_of_le h.len, h.row, h.lo, h.below⟩
theorem pcCells_snoc (ps : List Pc) (p : Pc) : pcCells (ps ++ [p]) = pcCells ps ++ [.string p.text, .int .i64 p.n, .int .i64 p.kind] := by simp [pcCells]
end
section
open Go.RowKit Go.Lib
set_option maxRecDepth 100000 in
set_option maxHeartbeats 40000000 in
theorem pieces_any (c : Int) (hc : -9223372036854775808 ≤ c ∧ c ≤ 9223372036854775807) (t : ByteArray) (ao : Option Addr) (n cap : Nat) (w : World) (hG : Gl w) (hI : IntsAt w ao n) :
 Calls Tryz.prog 5 #[.int .i64 c, .string t, .slice ao n cap] w fun e w' => e = .returned (.bool true) ∧ Below w.heap.size w w' := by
 have hk := pick_lt c 8 (by decide); have htab := tables_any c hc w hG; generalize pickP c 8 = k at hk htab; have HG := Lib.hid hG; have HK := Lib.hid hk; have HTAB := Lib.hid htab; have HI := Lib.hid hI; clear hG hk htab hI; by_cases ht : 2000 < t.size
 · have hd : (2000 : Int) < (t.size : Int) := by omega
   clear hc ht; go_enter Tryz.func5, Tryz.ntmps5; go_wp2_with (first | (go_at_call 12; refine (HTAB.out).mono ?_; rintro e w1 ⟨cb, rfl, hcm, hb1⟩; have H1 := Lib.hid (And.intro hcm hb1); clear hcm hb1)); go_ret; exact ⟨rfl, H1.out.2⟩
 · have hd : ¬ (2000 : Int) < (t.size : Int) := by omega
   have HT2 := Lib.hid (show t.size ≤ 2000 by omega); clear hc ht; go_enter Tryz.func5, Tryz.ntmps5; go_upto_region 4 with (first | (go_at_call 12; refine (HTAB.out).mono ?_; rintro e w1 ⟨cb, rfl, hcm, hb1⟩; have H1 := Lib.hid (And.intro hcm hb1); clear hcm hb1))
   have hg1 := HG.out.later H1.out.2; have htk := tokens_all (wf_i HK.out) t HT2.out w1 hg1 H1.out.1; unfold ToksO at htk; obtain ⟨L, hL⟩ : ∃ L, L = (idealL (tabOf k) 5000 13 3000 t 0 1 1).1 := ⟨_, rfl⟩; rw [← hL] at htk; have hct : L.length ≤ 2000 := by rw [hL]; have := ideal_count (T := tabOf k) (C := 5000) (e := 13) 3000 t 0 1 1; have := HT2.out; omega
   have HTOK := Lib.hid htk; have HL := Lib.hid hL; clear htk hg1 hL; go_wp2_with (first | (go_at_call 13; refine (HTOK.out).mono ?_; rintro e9 w2 ⟨ao2, cap2, rfl, hrow, hb2⟩; have H2 := Lib.hid (And.intro hrow hb2); clear hrow hb2)); go_loopw [10, 11, 12] (fun s10 s11 s12 wr => ∃ (i : Nat) (ps : List Pc) (rest : ByteArray) (ao10 : Option Addr) (cap10 : Nat), s12 = .int .i64 i ∧ s11 = .string rest ∧ s10 = .slice ao10 ps.length cap10 ∧ i ≤ n ∧ i ≤ 100 ∧ PsSt t w2 i ps rest s10 wr) (fun _ _ s12 _ => n - (RowKit.intOf s12).toNat)
   case atStart => exact ⟨0, [], t, none, 0, rfl, rfl, rfl, Nat.zero_le _, by omega, fun p hp => by (cases hp), by simp [catP], Nat.le_refl _, World.ownsRow_nil _ _ _ _, fun g hg => by (cases hg), Below.refl _ _⟩
   case round =>
    obtain ⟨i, ps, rest, ao10, cap10, rfl, rfl, rfl, hi, hi2, hps⟩ := hrel; have hrs : (catP ps).size + rest.size ≤ 2000 := by
     have := congrArg ByteArray.size hps.all; rw [size_app] at this; have := HT2.out; omega
    have HPS := Lib.hid hps; clear hps; by_cases hgo : i < n ∧ 0 < rest.size ∧ i < 100
    · have z1 : (i : Int) < (n : Int) := by omega
      have z2 : (0 : Int) < (rest.size : Int) := by omega
      have z3 : (i : Int) < 100 := by omega
      obtain ⟨z, b, off, rfl, hcz, hbz, hz1, hz2⟩ := HI.out i hgo.1; have hbl := below_then H1.out.2 (below_then H2.out.2 HPS.out.below H2.out.2.size) H1.out.2.size; have rz := (below_cell hbl ⟨b, off + i, none⟩ hbz).trans hcz; have wr1 : IntKind.i64.wrap ((rest.size : Int) + 1) = ((rest.size + 1 : Nat) : Int) := by rw [IntWalk.i64_in _ (by omega)]; omega
      have wr2 : IntKind.i64.wrap ((i : Int) + 1) = (i : Int) + 1 := IntWalk.i64_in _ (by omega); have hpk := pick_any z (rest.size + 1) ⟨hz1, hz2⟩ (by omega) (by omega) wr; have hkl := pick_lt z (rest.size + 1) (by omega); generalize pickP z (rest.size + 1) = q at hpk hkl; have HPK := Lib.hid hpk; clear hpk hcz hbl; have hlb : b < wr.heap.size := Nat.lt_of_lt_of_le hbz (below_then H1.out.2 (below_then H2.out.2 HPS.out.below H2.out.2.size) H1.out.2.size).size; go_upto_region 11 with (first | (go_at_call 19; refine (HPK.out).mono ?_; rintro e9 w3 ⟨rfl, rfl⟩))
      by_cases hq : 0 < q
      · have z4 : (0 : Int) < (q : Int) := by omega
        have hpl : ps.length ≤ 100 := by have := HPS.out.len; omega
        go_upto_region 13 with (first | (at_builtin; refine wpList_append_sl _ rfl _ _ rfl elemPiece _ _ _ rfl (by exact row_below HPS.out.row ((Below.refl _ _).alloc (Nat.le_refl _) _)) ⟨w3.heap.size, 0, none⟩ 1 1 [.string (rest.extract 0 q), .int .i64 ((i : Int) % 5 / 3), .int .i64 0] rfl rfl (cells_new _ #[.string (rest.extract 0 q), .int .i64 ((i : Int) % 5 / 3), .int .i64 0] _ _ rfl) (by simp [Value.oneCell']) (by decide) (by omega) (by decide) ?_; intro v4 w4 hrow4 hgr4 hbl4; obtain ⟨g4, cap4, rfl⟩ := row_succ hrow4; have H4 := Lib.hid (HPS.out.app (i := i) hq (by omega) (by omega) hrow4 hgr4 hbl4); clear hrow4 hgr4 hbl4))
        go_wp2_with (fail); go_roundw
        case rel => exact ⟨i + 1, ps ++ [⟨rest.extract 0 q, (i : Int) % 5 / 3, 0⟩], rest.extract q rest.size, some ⟨g4, 0, none⟩, cap4, by go_num, rfl, by simp, by omega, by omega, H4.out⟩
        case measure => (simp [RowKit.intOf] <;> omega)
      · obtain rfl : q = 0 := by omega
        have z4 : ¬ (0 : Int) < ((0 : Nat) : Int) := by omega
        go_wp2_with (fail); go_roundw
        case rel => exact ⟨i + 1, ps, rest, _, cap10, by go_num, rfl, rfl, by omega, by omega, HPS.out.skip⟩
        case measure => (simp [RowKit.intOf] <;> omega)
    · have hpl : ps.length ≤ 100 := by have := HPS.out.len; omega
      have hfin : ∀ (wz : World) (o : Obj) (v4 : Value) (w4 : World), wz = wr → w4.ownsRow 0 43 3 v4 (ps.length + 1) (pcCells ps ++ [.string rest, .int .i64 0, .int .i64 0]) → (wr.alloc o).grownBy w4 (Value.slice ao10 ps.length cap10).ownBlock → Below w2.heap.size w2 w4 := by
       intro wz o v4 w4 _ _ hg; exact below_append (HPS.out.below.alloc HPS.out.below.size o) hg (by have := HPS.out.below.size; simp; omega) HPS.out.lo
      have HFIN := Lib.hid hfin; clear hfin; have hpc : pcCells (ps ++ [⟨rest, 0, 0⟩]) = pcCells ps ++ [.string rest, .int .i64 0, .int .i64 0] := by simp [pcCells]
      have hll : (ps ++ [(⟨rest, 0, 0⟩ : Pc)]).length = ps.length + 1 := by simp
      have HPC := Lib.hid (And.intro hpc hll); clear hpc hll
      rcases (by omega : ¬ i < n ∨ (i < n ∧ ¬ 0 < rest.size) ∨ (i < n ∧ 0 < rest.size ∧ ¬ i < 100)) with h | ⟨h, h'⟩ | ⟨h, h', h''⟩
      · have z1 : ¬ (i : Int) < (n : Int) := by omega
        go_upto_region 15 with (first | (at_builtin; refine wpList_append_sl _ rfl _ _ rfl elemPiece _ _ _ rfl (by exact row_below HPS.out.row ((Below.refl _ _).alloc (Nat.le_refl _) _)) ⟨wr.heap.size, 0, none⟩ 1 1 [.string rest, .int .i64 0, .int .i64 0] rfl rfl (cells_new _ #[.string rest, .int .i64 0, .int .i64 0] _ _ rfl) (by simp [Value.oneCell']) (by decide) (by omega) (by decide) ?_; intro v4 w4 hrow4 hgr4 hbl4; obtain ⟨g4, cap4, rfl⟩ := row_succ hrow4; have H4 := Lib.hid (And.intro hrow4 (HFIN.out wr _ _ _ rfl hrow4 hgr4)); clear hrow4 hgr4 hbl4))
        have hl4 : (ps ++ [(⟨rest, 0, 0⟩ : Pc)]).length = ps.length + 1 := HPC.out.2; have hns := newSource_any (ps ++ [⟨rest, 0, 0⟩]) g4 cap4 w4 (by omega) (by omega) (by rw [hl4, HPC.out.1]; exact H4.out.1); rw [hl4] at hns; have HNS := Lib.hid hns; clear hns hl4; go_upto_region 16 with (first | (go_at_call 20; refine (HNS.out).mono ?_; rintro e9 w5 ⟨sb, rfl, h5a, h5b, h5c⟩; have H5 := Lib.hid (And.intro h5a (And.intro h5b h5c)); clear h5a h5b h5c))
        have hb2 : Below w.heap.size w w2 := below_then H1.out.2 H2.out.2 H1.out.2.size; have hg2 := HG.out.later hb2; have hb25 := below_then H4.out.2 H5.out.2.2 H4.out.2.size; have hall := HPS.out.all; have hsc := scan_at (C := 5000) (H1.out.1.later H2.out.2) hg2 hb25 H5.out.1 (pcs_ok HPS.out.ok (by rw [hall]; exact HT2.out) hpl) (by have := H4.out.2.size; have := H5.out.2.1; omega) (by decide) (by decide); have HSC := Lib.hid hsc; have HG2 := Lib.hid (And.intro hg2 hb2); clear hsc hg2 hb25 hb2
        go_upto_region 19 with (first | (go_at_call 21; refine (HSC.out).mono ?_; rintro e9 w6 ⟨xb, rfl, ho⟩; have H6 := Lib.hid ho; clear ho))
        have hal := all_at (n := 3000) (k := 13) (wf_i HK.out) H6.out.1 HG2.out.1 H6.out.2 (show streamS ⟨ps ++ [⟨rest, 0, 0⟩], 0, 0⟩ 0 = (t, 13) by rw [← hall]; exact stream_pcs rest ps 0 (by omega) HPS.out.ok) (show leftL (ps ++ [⟨rest, 0, 0⟩]) 0 ≤ 100000 by rw [left_pcs, hall]; have := HT2.out; omega) (idealL_13 _ _ _ _ _ (by have := HT2.out; omega) (by have := HT2.out; omega)) (by decide) (by decide) (by decide) (by decide) (by decide); rw [← HL.out] at hal; have HAL := Lib.hid hal; clear hal hall
        go_upto_region 20 with (first | (go_at_call 22; refine (HAL.out).mono ?_; rintro e9 w7 ⟨ao7, cap7, y, hy, hwf, rfl, hrow7, hrd, hb7⟩; have H7 := Lib.hid (And.intro hrow7 hb7); clear hy hwf hrow7 hrd hb7))
        have hg7 := HG2.out.1.below H7.out.2 HG2.out.1.size; have htd := told13 w7 hg7.err hg7.pos; have HTD := Lib.hid htd; clear htd hg7; go_upto_region 21 with (first | (go_at_call 23; refine (HTD.out).mono ?_; rintro e9 w8 ⟨rfl, hb8⟩; have H8 := Lib.hid hb8; clear hb8))
        have hb28 : Below w2.heap.size w2 w8 := below_then H7.out.2 H8.out H7.out.2.size; have hsame := same_any L (by omega) w8 _ _ ao2 ao7 cap2 cap7 (row_later H2.out.1 hb28 fun g hg => (row_lo H2.out.1 g hg).2) (row_later H7.out.1 H8.out fun g hg => (row_lo H7.out.1 g hg).2); have HSM := Lib.hid hsame; have HB := Lib.hid (below_then HG2.out.2 hb28 HG2.out.2.size); clear hsame hb28; go_wp2_with (first | (go_at_call 17; refine (HSM.out).mono ?_; rintro e9 w9 ⟨rfl, hb9⟩; have H9 := Lib.hid hb9; clear hb9)); go_ret; exact ⟨rfl, below_then HB.out H9.out HB.out.size⟩
      · have z1 : (i : Int) < (n : Int) := by omega
        have z2 : ¬ (0 : Int) < (rest.size : Int) := by omega
        go_upto_region 15 with (first | (at_builtin; refine wpList_append_sl _ rfl _ _ rfl elemPiece _ _ _ rfl (by exact row_below HPS.out.row ((Below.refl _ _).alloc (Nat.le_refl _) _)) ⟨wr.heap.size, 0, none⟩ 1 1 [.string rest, .int .i64 0, .int .i64 0] rfl rfl (cells_new _ #[.string rest, .int .i64 0, .int .i64 0] _ _ rfl) (by simp [Value.oneCell']) (by decide) (by omega) (by decide) ?_; intro v4 w4 hrow4 hgr4 hbl4; obtain ⟨g4, cap4, rfl⟩ := row_succ hrow4; have H4 := Lib.hid (And.intro hrow4 (HFIN.out wr _ _ _ rfl hrow4 hgr4)); clear hrow4 hgr4 hbl4))
        have hl4 : (ps ++ [(⟨rest, 0, 0⟩ : Pc)]).length = ps.length + 1 := HPC.out.2; have hns := newSource_any (ps ++ [⟨rest, 0, 0⟩]) g4 cap4 w4 (by omega) (by omega) (by rw [hl4, HPC.out.1]; exact H4.out.1); rw [hl4] at hns; have HNS := Lib.hid hns; clear hns hl4; go_upto_region 16 with (first | (go_at_call 20; refine (HNS.out).mono ?_; rintro e9 w5 ⟨sb, rfl, h5a, h5b, h5c⟩; have H5 := Lib.hid (And.intro h5a (And.intro h5b h5c)); clear h5a h5b h5c))
        have hb2 : Below w.heap.size w w2 := below_then H1.out.2 H2.out.2 H1.out.2.size; have hg2 := HG.out.later hb2; have hb25 := below_then H4.out.2 H5.out.2.2 H4.out.2.size; have hall := HPS.out.all; have hsc := scan_at (C := 5000) (H1.out.1.later H2.out.2) hg2 hb25 H5.out.1 (pcs_ok HPS.out.ok (by rw [hall]; exact HT2.out) hpl) (by have := H4.out.2.size; have := H5.out.2.1; omega) (by decide) (by decide); have HSC := Lib.hid hsc; have HG2 := Lib.hid (And.intro hg2 hb2); clear hsc hg2 hb25 hb2
        go_upto_region 19 with (first | (go_at_call 21; refine (HSC.out).mono ?_; rintro e9 w6 ⟨xb, rfl, ho⟩; have H6 := Lib.hid ho; clear ho))
        have hal := all_at (n := 3000) (k := 13) (wf_i HK.out) H6.out.1 HG2.out.1 H6.out.2 (show streamS ⟨ps ++ [⟨rest, 0, 0⟩], 0, 0⟩ 0 = (t, 13) by rw [← hall]; exact stream_pcs rest ps 0 (by omega) HPS.out.ok) (show leftL (ps ++ [⟨rest, 0, 0⟩]) 0 ≤ 100000 by rw [left_pcs, hall]; have := HT2.out; omega) (idealL_13 _ _ _ _ _ (by have := HT2.out; omega) (by have := HT2.out; omega)) (by decide) (by decide) (by decide) (by decide) (by decide); rw [← HL.out] at hal; have HAL := Lib.hid hal; clear hal hall
        go_upto_region 20 with (first | (go_at_call 22; refine (HAL.out).mono ?_; rintro e9 w7 ⟨ao7, cap7, y, hy, hwf, rfl, hrow7, hrd, hb7⟩; have H7 := Lib.hid (And.intro hrow7 hb7); clear hy hwf hrow7 hrd hb7))
        have hg7 := HG2.out.1.below H7.out.2 HG2.out.1.size; have htd := told13 w7 hg7.err hg7.pos; have HTD := Lib.hid htd; clear htd hg7; go_upto_region 21 with (first | (go_at_call 23; refine (HTD.out).mono ?_; rintro e9 w8 ⟨rfl, hb8⟩; have H8 := Lib.hid hb8; clear hb8))
        have hb28 : Below w2.heap.size w2 w8 := below_then H7.out.2 H8.out H7.out.2.size; have hsame := same_any L (by omega) w8 _ _ ao2 ao7 cap2 cap7 (row_later H2.out.1 hb28 fun g hg => (row_lo H2.out.1 g hg).2) (row_later H7.out.1 H8.out fun g hg => (row_lo H7.out.1 g hg).2); have HSM := Lib.hid hsame; have HB := Lib.hid (below_then HG2.out.2 hb28 HG2.out.2.size); clear hsame hb28; go_wp2_with (first | (go_at_call 17; refine (HSM.out).mono ?_; rintro e9 w9 ⟨rfl, hb9⟩; have H9 := Lib.hid hb9; clear hb9)); go_ret; exact ⟨rfl, below_then HB.out H9.out HB.out.size⟩
      · have z1 : (i : Int) < (n : Int) := by omega
        have z2 : (0 : Int) < (rest.size : Int) := by omega
        have z3 : ¬ (i : Int) < 100 := by omega
        go_upto_region 15 with (first | (at_builtin; refine wpList_append_sl _ rfl _ _ rfl elemPiece _ _ _ rfl (by exact row_below HPS.out.row ((Below.refl _ _).alloc (Nat.le_refl _) _)) ⟨wr.heap.size, 0, none⟩ 1 1 [.string rest, .int .i64 0, .int .i64 0] rfl rfl (cells_new _ #[.string rest, .int .i64 0, .int .i64 0] _ _ rfl) (by simp [Value.oneCell']) (by decide) (by omega) (by decide) ?_; intro v4 w4 hrow4 hgr4 hbl4; obtain ⟨g4, cap4, rfl⟩ := row_succ hrow4; have H4 := Lib.hid (And.intro hrow4 (HFIN.out wr _ _ _ rfl hrow4 hgr4)); clear hrow4 hgr4 hbl4))
        have hl4 : (ps ++ [(⟨rest, 0, 0⟩ : Pc)]).length = ps.length + 1 := HPC.out.2; have hns := newSource_any (ps ++ [⟨rest, 0, 0⟩]) g4 cap4 w4 (by omega) (by omega) (by rw [hl4, HPC.out.1]; exact H4.out.1); rw [hl4] at hns; have HNS := Lib.hid hns; clear hns hl4; go_upto_region 16 with (first | (go_at_call 20; refine (HNS.out).mono ?_; rintro e9 w5 ⟨sb, rfl, h5a, h5b, h5c⟩; have H5 := Lib.hid (And.intro h5a (And.intro h5b h5c)); clear h5a h5b h5c))
        have hb2 : Below w.heap.size w w2 := below_then H1.out.2 H2.out.2 H1.out.2.size; have hg2 := HG.out.later hb2; have hb25 := below_then H4.out.2 H5.out.2.2 H4.out.2.size; have hall := HPS.out.all; have hsc := scan_at (C := 5000) (H1.out.1.later H2.out.2) hg2 hb25 H5.out.1 (pcs_ok HPS.out.ok (by rw [hall]; exact HT2.out) hpl) (by have := H4.out.2.size; have := H5.out.2.1; omega) (by decide) (by decide); have HSC := Lib.hid hsc; have HG2 := Lib.hid (And.intro hg2 hb2); clear hsc hg2 hb25 hb2
        go_upto_region 19 with (first | (go_at_call 21; refine (HSC.out).mono ?_; rintro e9 w6 ⟨xb, rfl, ho⟩; have H6 := Lib.hid ho; clear ho))
        have hal := all_at (n := 3000) (k := 13) (wf_i HK.out) H6.out.1 HG2.out.1 H6.out.2 (show streamS ⟨ps ++ [⟨rest, 0, 0⟩], 0, 0⟩ 0 = (t, 13) by rw [← hall]; exact stream_pcs rest ps 0 (by omega) HPS.out.ok) (show leftL (ps ++ [⟨rest, 0, 0⟩]) 0 ≤ 100000 by rw [left_pcs, hall]; have := HT2.out; omega) (idealL_13 _ _ _ _ _ (by have := HT2.out; omega) (by have := HT2.out; omega)) (by decide) (by decide) (by decide) (by decide) (by decide); rw [← HL.out] at hal; have HAL := Lib.hid hal; clear hal hall
        go_upto_region 20 with (first | (go_at_call 22; refine (HAL.out).mono ?_; rintro e9 w7 ⟨ao7, cap7, y, hy, hwf, rfl, hrow7, hrd, hb7⟩; have H7 := Lib.hid (And.intro hrow7 hb7); clear hy hwf hrow7 hrd hb7))
        have hg7 := HG2.out.1.below H7.out.2 HG2.out.1.size; have htd := told13 w7 hg7.err hg7.pos; have HTD := Lib.hid htd; clear htd hg7; go_upto_region 21 with (first | (go_at_call 23; refine (HTD.out).mono ?_; rintro e9 w8 ⟨rfl, hb8⟩; have H8 := Lib.hid hb8; clear hb8))
        have hb28 : Below w2.heap.size w2 w8 := below_then H7.out.2 H8.out H7.out.2.size; have hsame := same_any L (by omega) w8 _ _ ao2 ao7 cap2 cap7 (row_later H2.out.1 hb28 fun g hg => (row_lo H2.out.1 g hg).2) (row_later H7.out.1 H8.out fun g hg => (row_lo H7.out.1 g hg).2); have HSM := Lib.hid hsame; have HB := Lib.hid (below_then HG2.out.2 hb28 HG2.out.2.size); clear hsame hb28; go_wp2_with (first | (go_at_call 17; refine (HSM.out).mono ?_; rintro e9 w9 ⟨rfl, hb9⟩; have H9 := Lib.hid hb9; clear hb9)); go_ret; exact ⟨rfl, below_then HB.out H9.out HB.out.size⟩
end
end Go.Proofs.YtghpmhllpaheiaaGreatDoor
