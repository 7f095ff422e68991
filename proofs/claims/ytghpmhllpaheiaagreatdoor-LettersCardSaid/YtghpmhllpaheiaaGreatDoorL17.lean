/-
  Part of the proof: Times, Again, Alt, Atom, Parse. No condition beyond those in the statements.
-/
import Derived.Deep.CutRange
import Derived.Recover
import Derived.Test.YtghpmhllpaheiaaGreatDoorL13
set_option linter.unusedVariables false
set_option linter.unusedSimpArgs false
set_option maxRecDepth 100000
set_option maxHeartbeats 4000000
namespace Go.Proofs.YtghpmhllpaheiaaGreatDoor
section
open Go.RowKit Go.Lib
structure TM (bp : Nat) (s : ByteArray) (W : Nat) (t : Tree) (v : Value) (BF p : Nat) (w : World) (q : Nat) (wr : World) : Prop where
 ps : PS bp s q wr
 grown : w.grownBy wr (some bp)
 tree : zar (Fr W) wr t v
 bf : wr.heap[BF]? = some (.cells #[.int .i64 p] 3 (0, 0))
 bw : bp < W
 ww : W <= w.heap.size
 fb : w.heap.size <= BF
theorem TM.below {bp : Nat} {s : ByteArray} {W : Nat} {t : Tree} {v : Value} {BF p : Nat} {w : World} {q : Nat} {wr w' : World} (h : TM bp s W t v BF p w q wr) (hb : Below wr.heap.size wr w') : TM bp s W t v BF p w q w' :=
 ⟨h.ps.below hb, zad h.grown (zah hb _), h.tree.below hb, zfu h.bf hb, h.bw, h.ww, h.fb⟩
theorem TM.next {bp : Nat} {s : ByteArray} {W : Nat} {t : Tree} {v : Value} {BF p : Nat} {w : World} {q q' : Nat} {wr w' : World} (h : TM bp s W t v BF p w q wr) (hp : PS bp s q' w') (hg : wr.grownBy w' (some bp)) : TM bp s W t v BF p w q' w' :=
 ⟨hp, zad h.grown hg, h.tree.grown h.bw hg, zcv h.bf hg (by have := h.bw; have := h.ww; have := h.fb; omega), h.bw, h.ww, h.fb⟩
theorem TM.drewN {bp : Nat} {s : ByteArray} {W : Nat} {t : Tree} {v : Value} {BF p : Nat} {w : World} {q : Nat} {wr : World} (h : TM bp s W t v BF p w q wr) (n : Nat) : TM bp s W t v BF p w q (wr.drewN n) :=
 ⟨h.ps.drewN n, zal h.grown n, h.tree.below (zb6 (Below.refl _ wr) n), h.bf, h.bw, h.ww, h.fb⟩
def zdk (s : ByteArray) (p q lo : Nat) : Except Err (Int × Nat) :=
 if isB s q 44 then (if decide (q + 1 < s.size) && !decide (byt s (q + 1) = 125) then (zbK s (q + 1) p).map (fun x => ((x.1 : Int), x.2)) else .ok (-1, q + 1)) else .ok ((lo : Int), q)
theorem zi3 (s : ByteArray) (p : Nat) (t : Tree) : zgp s p t =
 match zbK s (p + 1) p with
 | .error e => .error e
 | .ok (lo, q) =>
  match zdk s p q lo with
  | .error e => .error e
  | .ok (hi, q2) =>
   if isB s q2 125 = false \/ 8 < lo \/ 8 < hi \/ (0 <= hi /\ hi < lo) \/ zaO t = 0 then .error (4, p)
   else if hi < 0 then
    if lo = 0 then .ok (.rep t 0 false, q2 + 1) else .ok (.row (List.replicate (lo - 1) t ++ [.rep t 1 false]), q2 + 1)
   else .ok (.row (List.replicate lo t ++ List.replicate (hi.toNat - lo) (.rep t 0 true)), q2 + 1) := rfl
theorem pl_call (t : Tree) (x : Value) (S : Nat -> Prop) (w : World) (h : zar S w t (.iface (plT t) x)) : Calls Tryz.prog (plF t) #[x] w fun r w' => r = .returned (.int .i64 (zaO t)) /\ Below w.heap.size w w' := by
 obtain ⟨y, e, hc⟩ := zcP t _ S w h; cases e; exact hc
theorem zhv {s : ByteArray} {p k n q : Nat} (h : zbK s p k = .ok (n, q)) : n <= 99 /\ p < q /\ q <= s.size := by
 unfold zbK at h; split at h
 . next h1 =>
   have a1 := dig_yes h1; split at h
   . next h2 =>
     have a2 := dig_yes h2; split at h
     . cases h
     injection h with h; cases h; omega
   injection h with h; cases h; omega
 cases h
theorem times_any (bp : Nat) (s : ByteArray) (p W : Nat) (w : World) (t : Tree) (v : Value) (h : PS bp s p w) (hp1 : p + 1 <= s.size) (hs : s.size <= 60) (hbp : bp < W) (hW : W <= w.heap.size) (ht : zar (Fr W) w t v) :
 Calls Tryz.prog 140 #[.pointer (some ⟨bp, 0, none⟩), v] w (Out bp s w (fun t v w' => zar (Fr W) w' t v) (zgp s p t)) := by
 obtain ⟨x, rfl, _⟩ := zcP t v _ w ht; obtain ⟨c0, c1, f1⟩ := h.cells; have HT0 : Hid (TM bp s W t (.iface (plT t) x) w.heap.size p w (p + 1) ((w.setCell ⟨bp, 1, none⟩ (.int .i64 ((p : Int) + 1))).alloc (.cells #[.int .i64 p] 3))) := by
  have hg := zag w bp 1 (.int .i64 ((p : Int) + 1)); have hs2 : (w.setCell ⟨bp, 1, none⟩ (.int .i64 ((p : Int) + 1))).heap.size = w.heap.size := by simp
  have hb := (Below.refl _ (w.setCell ⟨bp, 1, none⟩ (.int .i64 ((p : Int) + 1)))).alloc (Nat.le_refl _) (.cells #[.int .i64 p] 3); exact hid ⟨(h.inc hp1).below hb, zad hg (zah hb _), (ht.grown hbp hg).below hb, by rw [zap, if_pos hs2.symm], hbp, hW, Nat.le_refl _⟩
 have hHX : ∀ e, zbK s (p + 1) p = .error e -> zgp s p t = .error e := fun e he => by rw [zi3, he]
 have HX := hid hHX; have hHY : ∀ lo q, zbK s (p + 1) p = .ok (lo, q) -> zgp s p t = match zdk s p q lo with
  | .error e => .error e
  | .ok (hi, q2) =>
   if isB s q2 125 = false \/ 8 < lo \/ 8 < hi \/ (0 <= hi /\ hi < lo) \/ zaO t = 0 then .error (4, p)
   else if hi < 0 then
    if lo = 0 then .ok (.rep t 0 false, q2 + 1) else .ok (.row (List.replicate (lo - 1) t ++ [.rep t 1 false]), q2 + 1)
   else .ok (.row (List.replicate lo t ++ List.replicate (hi.toNat - lo) (.rep t 0 true)), q2 + 1) := fun lo q he => by rw [zi3, he]
 have HY := hid hHY; have hps1 : (p : Int) + 1 <= 1000 := by omega
 have hlt := h.lt; clear h ht hHX hHY; go_enter Tryz.func140, Tryz.ntmps140; go_wp2_with (fail); clear c0 c1 f1; generalize (w.setCell ⟨bp, 1, none⟩ (.int .i64 ((p : Int) + 1))).alloc (.cells #[.int .i64 p] 3) = w1 at *; generalize hBF : w.heap.size = BF at *; cases hn : zbK s (p + 1) p with
 | error e =>
  refine (zeg bp BF s (p + 1) p w1 HT0.out.ps (zab _ BF 0 _ _ _ HT0.out.bf) (by omega)).mono ?_; intro r w2 hr; rw [hn] at hr; obtain ⟨rfl, hg2⟩ := hr; refine ⟨rfl, ?_⟩; rw [HX.out e hn]; exact ⟨rfl, zad HT0.out.grown hg2⟩
 | ok loq =>
  obtain ⟨lo, q⟩ := loq; refine (zeg bp BF s (p + 1) p w1 HT0.out.ps (zab _ BF 0 _ _ _ HT0.out.bf) (by omega)).mono ?_; intro r w2 hr; rw [hn] at hr; obtain ⟨v2, rfl, rfl, hp2, hg2⟩ := hr; have HT2 := hid (HT0.out.next hp2 hg2); have hXX := HY.out lo q hn; have HZ := hid hXX; obtain ⟨hlo, hpq, hqs⟩ := zhv hn; clear HT0 hp2 hg2 hXX HX HY hn; have hS := zhM bp s q 44 w2 HT2.out.ps; go_upto_if 27 with (first | (go_at_call 164; refine hS.mono ?_; rintro e w3 ⟨rfl, hp3, hg3⟩; clear hS))
  go_cut [8] from 10 (fun s8 wr => ∃ (hi : Int) (q2 : Nat), zdk s p q lo = .ok (hi, q2) /\ s8 = .int .i64 hi /\ TM bp s W t (.iface (plT t) x) BF p w q2 wr /\ -1 <= hi /\ hi <= 99)
  case first =>
   cases h44 : isB s q 44 with
   | false =>
    have HHI : zdk s p q lo = .ok ((lo : Int), q) := by rw [zdk, h44, if_neg (by decide)]
    rw [h44] at hp3; simp only [if_neg (show ¬ false = true from by decide)] at hp3; have HT3 := HT2.out.next hp3 hg3; go_wp2_with (fail); go_meet
    case rel => exact ⟨_, _, HHI, rfl, HT3, by omega, by omega⟩
   | true =>
    rw [h44] at hp3; simp only [if_pos] at hp3; obtain ⟨d0, d1, g1⟩ := hp3.cells; have HT3 := hid (HT2.out.next hp3 hg3); have hq1 := hp3.le; clear HT2 hp3 hg3; have hq1z : (q : Int) + 1 <= 1000 := by omega
    generalize hqe : q + 1 = r at *; have hrz : (q : Int) + 1 = (r : Int) := by omega
    cases hg : decide (r < s.size) && !decide (byt s r = 125) with
    | false =>
     have HHI : Hid (zdk s p q lo = .ok (-1, r)) := hid (by rw [zdk, h44, if_pos rfl, hqe, hg]; rfl); by_cases hlt : r < s.size
     . have hz : (r : Int) < (s.size : Int) := by omega
       have hb := zdE s r hlt; have h125 : ((byt s r : Int) != 125) = false := by
        simp [hlt] at hg; simp [hg]
       clear hg; go_wp2; go_quiet (fail); have HT4 := hid (HT3.out.drewN nq); clear HT3 d0 d1 g1 h125 hb; generalize w3.drewN nq = w4 at *; go_wp2_with (fail); go_meet
       case rel => exact ⟨_, _, HHI.out, rfl, HT4.out, by omega, by omega⟩
     . have hz : decide ((r : Int) < (s.size : Int)) = false := by simp; omega
       clear hg; go_wp2; go_quiet (fail); have HT4 := hid (HT3.out.drewN nq); clear HT3 d0 d1 g1; generalize w3.drewN nq = w4 at *; go_wp2_with (fail); go_meet
       case rel => exact ⟨_, _, HHI.out, rfl, HT4.out, by omega, by omega⟩
    | true =>
     have hg2 : r < s.size /\ ¬ byt s r = 125 := by simpa using hg
     have hlt := hg2.1; have hz : (r : Int) < (s.size : Int) := by omega
     have hb := zdE s r hlt; have h125 : ((byt s r : Int) != 125) = true := by have := hg2.2; simp; omega
     have hHE : zdk s p q lo = (zbK s r p).map (fun x => ((x.1 : Int), x.2)) := by rw [zdk, h44, if_pos rfl, hqe, hg]; rfl
     have HHE := hid hHE; clear hg hg2 hHE; go_wp2; go_quiet (fail); have HT4 := hid (HT3.out.drewN nq); clear HT3 d0 d1 g1 h125 hb; generalize w3.drewN nq = w4 at *; go_wp2_with (fail); cases hn2 : zbK s r p with
     | error e =>
      refine (zeg bp BF s r p _ HT4.out.ps (zab _ BF 0 _ _ _ HT4.out.bf) (by omega)).mono ?_; intro r w5 hr; rw [hn2] at hr; obtain ⟨rfl, hg2⟩ := hr; refine ⟨rfl, ?_⟩; rw [HZ.out, HHE.out, hn2]; exact ⟨rfl, zad HT4.out.grown hg2⟩
     | ok loq =>
      obtain ⟨n, q2⟩ := loq; refine (zeg bp BF s r p _ HT4.out.ps (zab _ BF 0 _ _ _ HT4.out.bf) (by omega)).mono ?_; intro r w5 hr; rw [hn2] at hr; obtain ⟨v2, rfl, rfl, hp5, hg5⟩ := hr; have HT5 := hid (HT4.out.next hp5 hg5); have hn99 := (zhv hn2).1; have HHI : Hid (zdk s p q lo = .ok ((n : Int), q2)) := hid (by rw [HHE.out, hn2]; rfl); clear HT4 hp5 hg5 hn2 HHE; go_wp2_with (fail); go_meet
      case rel => exact ⟨_, _, HHI.out, rfl, HT5.out, by omega, by omega⟩
  case rest =>
   clear HT2 hp3 hg3; obtain ⟨hi, q2, hhi, rfl, HT5, hhi0, hhi9⟩ := hcut; have HHI := hid hhi; have HT := hid HT5; clear hhi HT5; have hXX := HZ.out; rw [HHI.out] at hXX; simp only at hXX; clear HZ HHI; have hS2 := zhM bp s q2 125 _ HT.out.ps; cases h125 : isB s q2 125 with
   | false =>
    rw [h125] at hS2; simp only [if_neg (show ¬ false = true from by decide)] at hS2; rw [if_pos (.inl h125)] at hXX; have HX := hid hXX; clear hXX; go_wp2_with (first | (go_at_call 164; refine hS2.mono ?_; rintro e w6 ⟨rfl, hp6, hg6⟩; clear hS2; have HT6 := hid ((HT).out.next hp6 hg6)) | (rw [zbz]; go_upon) | (rw [zbA]; go_simp) | (go_at_call 162; refine (zdA BF p _ (by exact zab _ BF 0 _ _ _ HT6.out.bf)).mono ?_; rintro e w7 ⟨rfl, rfl⟩))
    all_goals
     refine ⟨rfl, ?_⟩; rw [HX.out]; exact ⟨rfl, HT6.out.grown⟩
   | true =>
    rw [h125] at hS2; simp only [if_pos] at hS2; by_cases b1 : 8 < lo
    . rw [if_pos (.inr (.inl b1))] at hXX
      have HX := hid hXX; clear hXX; go_wp2_with (first | (go_at_call 164; refine hS2.mono ?_; rintro e w6 ⟨rfl, hp6, hg6⟩; clear hS2; have HT6 := hid ((HT).out.next hp6 hg6)) | (rw [zbz]; go_upon) | (rw [zbA]; go_simp) | (go_at_call 162; refine (zdA BF p _ (by exact zab _ BF 0 _ _ _ HT6.out.bf)).mono ?_; rintro e w7 ⟨rfl, rfl⟩))
      all_goals
       refine ⟨rfl, ?_⟩; rw [HX.out]; exact ⟨rfl, HT6.out.grown⟩
    by_cases b2 : (8 : Int) < hi
    . rw [if_pos (.inr (.inr (.inl b2)))] at hXX
      have HX := hid hXX; clear hXX; go_wp2_with (first | (go_at_call 164; refine hS2.mono ?_; rintro e w6 ⟨rfl, hp6, hg6⟩; clear hS2; have HT6 := hid ((HT).out.next hp6 hg6)) | (rw [zbz]; go_upon) | (rw [zbA]; go_simp) | (go_at_call 162; refine (zdA BF p _ (by exact zab _ BF 0 _ _ _ HT6.out.bf)).mono ?_; rintro e w7 ⟨rfl, rfl⟩))
      all_goals
       refine ⟨rfl, ?_⟩; rw [HX.out]; exact ⟨rfl, HT6.out.grown⟩
    by_cases b3 : (0 : Int) <= hi /\ (hi : Int) < lo
    . rw [if_pos (.inr (.inr (.inr (.inl b3))))] at hXX
      obtain ⟨b30, b31⟩ := b3; have HX := hid hXX; clear hXX; go_wp2_with (first | (go_at_call 164; refine hS2.mono ?_; rintro e w6 ⟨rfl, hp6, hg6⟩; clear hS2; have HT6 := hid ((HT).out.next hp6 hg6)) | (rw [zbz]; go_upon) | (rw [zbA]; go_simp) | (go_at_call 162; refine (zdA BF p _ (by exact zab _ BF 0 _ _ _ HT6.out.bf)).mono ?_; rintro e w7 ⟨rfl, rfl⟩))
      all_goals
       refine ⟨rfl, ?_⟩; rw [HX.out]; exact ⟨rfl, HT6.out.grown⟩
    by_cases b4 : zaO t = 0
    . rw [if_pos (.inr (.inr (.inr (.inr b4))))] at hXX
      have HX := hid hXX; clear hXX; have hb4 : (zaO t == 0) = true := by simp [b4]
      go_wp2_with (first | (go_at_call 164; refine hS2.mono ?_; rintro e w6 ⟨rfl, hp6, hg6⟩; clear hS2; have HT6 := hid (HT.out.next hp6 hg6)) | (rw [zbz]; go_upon) | (rw [zbA]; go_simp) | (go_at_call 162; refine (zdA BF p _ (by exact zab _ BF 0 _ _ _ HT7.out.bf)).mono ?_; rintro e w8 ⟨rfl, rfl⟩) | (refine (pl_call t x _ _ (by exact HT6.out.tree)).mono ?_; rintro e w7 ⟨rfl, hb7⟩; have HT7 := hid (HT6.out.below hb7)))
      all_goals
       refine ⟨rfl, ?_⟩; rw [HX.out]; exact ⟨rfl, HT7.out.grown⟩
    have hb4 : (zaO t == 0) = false := by simp [b4]
    rw [if_neg (by rintro (h | h | h | h | h) <;> first | exact b1 h | exact b2 h | exact b3 h | exact b4 h | exact absurd (h125.symm.trans h) (by decide))] at hXX; have HX := hid hXX; clear hXX h125 b4
    rcases Int.lt_or_le hi 0 with hng | hng
    all_goals go_wp2_with (first | (go_at_call 164; refine hS2.mono ?_; rintro e w6 ⟨rfl, hp6, hg6⟩; clear hS2; have HT6 := hid (HT.out.next hp6 hg6)) | (rw [zbz]; go_upon) | (rw [zbA]; go_simp) | (refine (pl_call t x _ _ (by exact HT6.out.tree)).mono ?_; rintro e w7 ⟨rfl, hb7⟩; have HT7 := hid (HT6.out.below hb7)))
    all_goals
     have HP7 := hid HT7.out.ps; have HG7 := hid HT7.out.grown; have HR7 := hid HT7.out.tree; clear HT7 HT6 HT hb7 hp6 hg6; clear hb4; go_loopw [9, 81] (fun o i wr => ∃ k : Nat, k <= lo /\ i = .int .i64 k /\ PS bp s (q2 + 1) wr /\ w.grownBy wr (some bp) /\ RK BF W (List.replicate k t) (List.replicate k (.iface (plT t) x)) o wr /\ zar (fun g => W <= g /\ o.ownBlock ≠ some g) wr t (.iface (plT t) x)) (fun _ i _ => lo - (RowKit.intOf i).toNat)
     case atStart => exact ⟨0, by omega, rfl, HP7.out, HG7.out, RK.nil _ _ _, HR7.out.weak fun g hg _ => ⟨hg, by simp [Value.ownBlock]⟩⟩
     case round =>
      obtain ⟨k, hk, rfl, hps, hgr, hrk, htr⟩ := hrel; have HPS := hid hps; have HGR := hid hgr; have HRK := hid hrk; have HTR := hid htr; have hlen : (List.replicate k t).length = k := List.length_replicate; by_cases hlt2 : k < lo
      . have hkz : (k : Int) < (lo : Int) := by omega
        clear hps hgr hrk htr; go_wp2_with (at_builtin; refine zan _ rfl _ _ rfl zih _ _ _ rfl (by exact (HRK.out.alloc _).row) ⟨_, 0, none⟩ 1 1 [Value.iface (plT t) x] rfl rfl (zaD _ #[Value.iface (plT t) x] _ _ (by simp)) (by simp [Value.oneCell']) (by decide) (by omega) (by decide) ?_; intro v' w' hrow' hgr' hbl'); have hbA := (Below.refl _ wr).alloc (Nat.le_refl _) (.cells #[Value.iface (plT t) x] 138); have hszA : BF <= (wr.alloc (.cells #[Value.iface (plT t) x] 138)).heap.size := by have := HGR.out.size; simp; omega
        obtain ⟨n1, n2⟩ := (HRK.out.alloc (.cells #[Value.iface (plT t) x] 138)).append hszA (HTR.out.below hbA) hrow' hgr' hbl'; have hps' := (HPS.out.below hbA).apart hgr' (fun g hg => by have := HRK.out.fresh g hg; omega); have hgr2 := zcZ hgr' (fun g hg => by have := HRK.out.fresh g hg; omega) (by omega) (zad HGR.out (zah hbA _)); go_roundw
        case rel =>
         refine ⟨k + 1, by omega, by go_num, hps', hgr2, ?_, n2⟩; rw [List.replicate_succ', List.replicate_succ']; exact n1
        case measure => simp [RowKit.intOf]; omega
      have hk2 : k = lo := by omega
      subst hk2; clear hps hgr hrk htr; have hXX := HX.out; by_cases hneg : hi < 0
      . try (exfalso; omega)
        all_goals
         clear hng; rw [if_pos hneg] at hXX; by_cases hk0 : k = 0
         . rw [if_pos hk0] at hXX
           have HX2 := hid hXX; clear hXX; have hkz : ((k : Int) == 0) = true := by simp [hk0]
           go_wp2_with (fail); go_ret; rw [HX2.out]; exact ⟨.iface 206 (.agg #[.iface (plT t) x, .int .i64 0, .bool false]), rfl, zcU 0 false HTR.out.notIn, HPS.out, HGR.out⟩
         rw [if_neg hk0] at hXX
         have HX2 := hid hXX; clear hXX; have hkz : ((k : Int) == 0) = false := by simp [hk0]
         have hrow0 := HRK.out.row; rw [hlen] at hrow0; have hform := zaG hrow0
         rcases hform with ⟨_, h⟩ | ⟨g, cap, rfl, hcap, hgs⟩
         . exact absurd h hk0
         obtain ⟨k', rfl⟩ : ∃ k', k = k' + 1 := ⟨k - 1, by omega⟩
         have hks : ((k' + 1 : Nat) : Int) - 1 = (k' : Int) := by omega
         have hfz := hrow0.frozenAt k'; have hcl := zax hrow0 k' (.iface (plT t) x) (by simp [List.getElem?_replicate]); have HROW0 := hid hrow0; clear hrow0; go_wp2_with (fail); go_ret; have hgF := HRK.out.fresh g rfl; obtain ⟨r1, r2⟩ := HROW0.out.stored k' (.iface 206 (.agg #[.iface (plT t) x, .int .i64 1, .bool false])); have ht2 := HTR.out.ext (fun _ h => h) (w' := wr.setCell ⟨g, k', none⟩ (.iface 206 (.agg #[.iface (plT t) x, .int .i64 1, .bool false]))) (fun b hb _ => zaf _ _ _ _ (fun e => hb.2 (by rw [e]; rfl))) _ _; rw [set_last] at r1; rw [HX2.out]
         refine ⟨.iface 202 (.slice (some ⟨g, 0, none⟩) (k' + 1) cap), rfl, zfe (by simpa using r1) (fun b hb => by cases hb; show W <= g; omega) ?_, HPS.out.apart r2 (fun b hb => by cases hb; omega), zcZ r2 (fun b hb => by cases hb; omega) (by have := HGR.out.size; omega) HGR.out⟩; rw [Nat.add_sub_cancel]; exact (zaC.rep ht2.notIn k').snoc (zcU 1 false ht2.notIn)
      try (exfalso; omega)
      all_goals
       clear hng; rw [if_neg hneg] at hXX; have HX2 := hid hXX; clear hXX; obtain ⟨m, hm⟩ : ∃ m : Nat, (m : Int) = hi - (k : Int) := ⟨(hi - k).toNat, by omega⟩; have hm2 : hi.toNat - k = m := by omega
       rw [hm2] at HX2; go_wp2_with (fail); go_loopw [9, 91] (fun o i wr => ∃ j : Nat, j <= m /\ i = .int .i64 j /\ PS bp s (q2 + 1) wr /\ w.grownBy wr (some bp) /\ RK BF W (List.replicate k t ++ List.replicate j (.rep t 0 true)) (List.replicate k (.iface (plT t) x) ++ List.replicate j (.iface 206 (.agg #[.iface (plT t) x, .int .i64 0, .bool true]))) o wr /\ zar (fun g => W <= g /\ o.ownBlock ≠ some g) wr t (.iface (plT t) x)) (fun _ i _ => m - (RowKit.intOf i).toNat)
       case atStart => exact ⟨0, by omega, rfl, HPS.out, HGR.out, by simpa using HRK.out, HTR.out⟩
       case round =>
        obtain ⟨j, hj, rfl, hps, hgr, hrk, htr⟩ := hrel; generalize wr = wr_1 at *; have HPS2 := hid hps; have HGR2 := hid hgr; have HRK2 := hid hrk; have HTR2 := hid htr; have hlen2 : (List.replicate k t ++ List.replicate j (Tree.rep t 0 true)).length = k + j := by simp
        by_cases hlt3 : j < m
        . have hjz : (j : Int) < hi - (k : Int) := by omega
          clear hps hgr hrk htr; go_wp2_with (at_builtin; refine zan _ rfl _ _ rfl zih _ _ _ rfl (by exact (HRK2.out.alloc _).row) ⟨_, 0, none⟩ 1 1 [Value.iface 206 (.agg #[.iface (plT t) x, .int .i64 0, .bool true])] rfl rfl (zaD _ #[Value.iface 206 (.agg #[.iface (plT t) x, .int .i64 0, .bool true])] _ _ (by simp)) (by simp [Value.oneCell']) (by decide) (by omega) (by decide) ?_; intro v' w' hrow' hgr' hbl'); have hbA := (Below.refl _ wr_1).alloc (Nat.le_refl _) (.cells #[Value.iface 206 (.agg #[.iface (plT t) x, .int .i64 0, .bool true])] 138)
          have hszA : BF <= (wr_1.alloc (.cells #[Value.iface 206 (.agg #[.iface (plT t) x, .int .i64 0, .bool true])] 138)).heap.size := by have := HGR2.out.size; simp; omega
          obtain ⟨n1, n2⟩ := (HRK2.out.alloc (.cells #[Value.iface 206 (.agg #[.iface (plT t) x, .int .i64 0, .bool true])] 138)).append hszA (zcU 0 true (HTR2.out.below hbA)) hrow' hgr' hbl'; have hps' := (HPS2.out.below hbA).apart hgr' (fun g hg => by have := HRK2.out.fresh g hg; omega); have hgr2 := zcZ hgr' (fun g hg => by have := HRK2.out.fresh g hg; omega) (by omega) (zad HGR2.out (zah hbA _)); go_roundw
          case rel =>
           refine ⟨j + 1, by omega, by go_num, hps', hgr2, ?_, zgW n2⟩; rw [List.replicate_succ', List.replicate_succ', <- List.append_assoc, <- List.append_assoc]; exact n1
          case measure => simp [RowKit.intOf]; omega
        have hj2 : j = m := by omega
        subst hj2; clear hps hgr hrk htr; go_wp2_with (fail); go_ret; rw [HX2.out]; exact ⟨_, rfl, zfe HRK2.out.row (fun b hb => by have := HRK2.out.fresh b hb; show W <= b; omega) (HRK2.out.trees.weak fun b hb _ => hb.1), HPS2.out, HGR2.out⟩
end
section
open Go.RowKit Go.Lib
abbrev TOut (bp : Nat) (s : ByteArray) (W : Nat) (w : World) (x : Except Err (Tree × Nat)) : Ending -> World -> Prop := Out bp s w (fun t v w' => zar (Fr W) w' t v) x
theorem ziw (bp : Nat) (s : ByteArray) (p W : Nat) (w : World) (t : Tree) (v : Value) (h : PS bp s p w) (hs : s.size <= 60) (hbp : bp < W) (hW : W <= w.heap.size) (ht : zar (Fr W) w t v) :
 Calls Tryz.prog 112 #[.pointer (some ⟨bp, 0, none⟩), v] w (TOut bp s W w (zer s p t)) := by
 obtain ⟨x, rfl, _⟩ := zcP t v _ w ht; have H := hid h; have HT := hid ht; cases hx : zbp s p with
 | error e =>
  have HC : Hid (zer s p t = .error e) := hid (by rw [zer, hx]); have hP := zcy bp s p w e h hx; clear h hx ht; go_enter Tryz.func112, Tryz.ntmps112; go_wp2_with (first | (go_at_call 98; refine hP.mono ?_; rintro e w1 ⟨rfl, hb1⟩)); refine ⟨rfl, ?_⟩; rw [HC.out]; exact ⟨rfl, zah hb1 _⟩
 | ok c =>
  have hP := zbH bp s p w c h hx; have HX := hid hx; have hC : zer s p t = if c = 42 then .ok (.rep t 0 false, p + 1) else if c = 43 then .ok (.rep t 1 false, p + 1) else if c = 63 then .ok (.rep t 0 true, p + 1) else if c = 123 then zgp s p t else .ok (t, p) := by rw [zer, hx]
  clear h hx ht; by_cases h1 : c = 42
  . subst h1
    rw [if_pos rfl] at hC; have HC := hid hC; clear hC; go_enter Tryz.func112, Tryz.ntmps112; go_wp2_with (first | (go_at_call 98; refine hP.mono ?_; rintro e w1 ⟨rfl, hb1⟩; have H1 := hid (H.out.below hb1)) | (go_at_call 99; refine (zcM bp s p _ 42 (p + 1) H1.out (zbE HX.out (by decide) (by decide))).mono ?_; rintro e w2 ⟨rfl, hps2, hg2⟩)); go_ret; rw [HC.out]; exact ⟨.iface 206 (.agg #[.iface (plT t) x, .int .i64 0, .bool false]), rfl, zcU 0 false ((HT.out.below hb1).grown hbp hg2), hps2, zad (zah hb1 _) hg2⟩
  by_cases h2 : c = 43
  . subst h2
    rw [if_neg h1, if_pos rfl] at hC; have HC := hid hC; clear hC; go_enter Tryz.func112, Tryz.ntmps112; go_wp2_with (first | (go_at_call 98; refine hP.mono ?_; rintro e w1 ⟨rfl, hb1⟩; have H1 := hid (H.out.below hb1)) | (go_at_call 99; refine (zcM bp s p _ 43 (p + 1) H1.out (zbE HX.out (by decide) (by decide))).mono ?_; rintro e w2 ⟨rfl, hps2, hg2⟩)); go_ret; rw [HC.out]; exact ⟨.iface 206 (.agg #[.iface (plT t) x, .int .i64 1, .bool false]), rfl, zcU 1 false ((HT.out.below hb1).grown hbp hg2), hps2, zad (zah hb1 _) hg2⟩
  by_cases h3 : c = 63
  . subst h3
    rw [if_neg h1, if_neg h2, if_pos rfl] at hC; have HC := hid hC; clear hC; go_enter Tryz.func112, Tryz.ntmps112; go_wp2_with (first | (go_at_call 98; refine hP.mono ?_; rintro e w1 ⟨rfl, hb1⟩; have H1 := hid (H.out.below hb1)) | (go_at_call 99; refine (zcM bp s p _ 63 (p + 1) H1.out (zbE HX.out (by decide) (by decide))).mono ?_; rintro e w2 ⟨rfl, hps2, hg2⟩)); go_ret; rw [HC.out]; exact ⟨.iface 206 (.agg #[.iface (plT t) x, .int .i64 0, .bool true]), rfl, zcU 0 true ((HT.out.below hb1).grown hbp hg2), hps2, zad (zah hb1 _) hg2⟩
  by_cases h4 : c = 123
  . subst h4
    rw [if_neg h1, if_neg h2, if_neg h3, if_pos rfl] at hC; have HC := hid hC; have hp1 : p + 1 <= s.size := ((zf7 HX.out).2.2 (by decide)).1; clear hC; go_enter Tryz.func112, Tryz.ntmps112; go_wp2_with (first | (go_at_call 98; refine hP.mono ?_; rintro e w1 ⟨rfl, hb1⟩; have H1 := hid (H.out.below hb1))); refine (times_any bp s p W _ t _ H1.out hp1 hs hbp (Nat.le_trans hW hb1.size) (HT.out.below hb1)).mono ?_; intro r w2 hr; cases hx2 : zgp s p t with
    | error e =>
     rw [hx2] at hr; obtain ⟨rfl, hg2⟩ := hr; refine ⟨rfl, ?_⟩; show TOut bp s W w _ _ _; rw [HC.out, hx2]; exact ⟨rfl, zad (zah hb1 _) hg2⟩
    | ok cq =>
     rw [hx2] at hr; obtain ⟨v2, rfl, htr, hp2, hg2⟩ := hr; go_wp2_with (fail); go_ret; rw [HC.out, hx2]; exact ⟨_, rfl, htr, hp2, zad (zah hb1 _) hg2⟩
  rw [if_neg h1, if_neg h2, if_neg h3, if_neg h4] at hC
  have HC := hid hC; have e1 : (c == 42) = false := by simp [h1]
  have e2 : (c == 43) = false := by simp [h2]
  have e3 : (c == 63) = false := by simp [h3]
  have e4 : (c == 123) = false := by simp [h4]
  clear hC; go_enter Tryz.func112, Tryz.ntmps112; go_wp2_with (first | (go_at_call 98; refine hP.mono ?_; rintro e w1 ⟨rfl, hb1⟩; have H1 := hid (H.out.below hb1))); go_ret; rw [HC.out]; exact ⟨_, rfl, HT.out.below hb1, H1.out, zah hb1 _⟩
end
section
open Go.RowKit Go.Lib
def RowC (f : Nat) : Prop := ∀ (bp : Nat) (s : ByteArray) (p deep : Nat) (w : World), PS bp s p w -> s.size <= 60 -> deep <= 8 -> rowP s f deep p [] ≠ .error (0, 0) ->
 Calls Tryz.prog 97 #[.pointer (some ⟨bp, 0, none⟩), .int .i64 deep] w (TOut bp s w.heap.size w (rowP s f deep p []))
def AtomC (f : Nat) : Prop := ∀ (bp : Nat) (s : ByteArray) (p deep : Nat) (w : World), PS bp s p w -> s.size <= 60 -> deep <= 8 -> zgB s f deep p ≠ .error (0, 0) ->
 Calls Tryz.prog 113 #[.pointer (some ⟨bp, 0, none⟩), .int .i64 deep] w (TOut bp s w.heap.size w (zgB s f deep p))
def AltC (f : Nat) : Prop := ∀ (bp : Nat) (s : ByteArray) (p deep : Nat) (w : World), PS bp s p w -> s.size <= 60 -> deep <= 8 -> altP s f deep p ≠ .error (0, 0) ->
 Calls Tryz.prog 79 #[.pointer (some ⟨bp, 0, none⟩), .int .i64 deep] w (TOut bp s w.heap.size w (altP s f deep p))
theorem rowP_succ (s : ByteArray) (f deep p : Nat) (l : List Tree) : rowP s (f + 1) deep p l =
 match zbp s p with
 | .error e => .error e
 | .ok c =>
  if c = -1 \/ c = 124 \/ c = 41 then .ok (.row l, p)
  else
   match zgB s f deep p with
   | .error e => .error e
   | .ok (t, q) =>
    match zer s q t with
    | .error e => .error e
    | .ok (u, q2) => rowP s f deep q2 (l ++ [u]) := by rw [rowP]; rfl
theorem row_any (f : Nat) (hf : f <= 1000) (ih : ∀ g, g < f -> AtomC g) : RowC f := by
 intro bp s p deep w h hs hdeep hok; have H := hid h; have IH := hid ih; have hbp := h.lt; generalize hR : rowP s f deep p [] = R at *; have HOK := hid hok; clear h ih hok; go_enter Tryz.func97, Tryz.ntmps97; go_wp2; go_loopg [5] f (fun gh o wr => ∃ (l : List Tree) (vs : List Value) (q g : Nat), g = gh /\ l.length + g = f /\ R = rowP s g deep q l /\ RK w.heap.size w.heap.size l vs o wr /\ PS bp s q wr /\ w.grownBy wr (some bp))
 case atStart => exact ⟨[], [], p, f, rfl, by simp, hR.symm, RK.nil _ _ _, H.out, zaZ _ _⟩
 case round =>
  obtain ⟨l, vs, q, g, hgg, hlg, hloop, hrk, hps, hgr⟩ := hrel; have HRK := hid hrk; have HPS := hid hps; have HGR := hid hgr; have HGG := hid hgg; have hsz := hgr.size; clear hrk hgr hgg; cases g with
  | zero =>
   rw [rowP] at hloop; exact absurd hloop HOK.out
  | succ g =>
   rw [rowP_succ] at hloop; cases hx : zbp s q with
   | error e =>
    have HC : Hid (R = .error e) := hid (by rw [hloop, hx]); have hP := zcy bp s q _ e hps hx; clear hloop hx hps; go_wp2_with (first | (go_at_call 98; refine hP.mono ?_; rintro e w1 ⟨rfl, hb1⟩)); refine ⟨rfl, ?_⟩; rw [HC.out]; exact ⟨rfl, zad HGR.out (zah hb1 _)⟩
   | ok c =>
    have hP := zbH bp s q _ c hps hx; have HX := hid hx; rw [hx] at hloop; simp only at hloop; clear hx hps; by_cases hend : c = -1 \/ c = 124 \/ c = 41
    . rw [if_pos hend] at hloop
      have HC := hid hloop; clear hloop
      rcases hend with rfl | rfl | rfl
      all_goals
       go_wp2_with (first | (go_at_call 98; refine hP.mono ?_; rintro e w1 ⟨rfl, hb1⟩)); go_ret; rw [HC.out]; have hrk1 := HRK.out.below hb1; exact ⟨_, rfl, zfe hrk1.row hrk1.fresh (hrk1.trees.weak fun b hb _ => hb.1), HPS.out.below hb1, zad HGR.out (zah hb1 _)⟩
    rw [if_neg hend] at hloop
    have e1 : (c == -1) = false := by simp; omega
    have e2 : (c == 124) = false := by simp; omega
    have e3 : (c == 41) = false := by simp; omega
    have HL := hid hloop; clear hloop hend; go_wp2_with (first | (go_at_call 98; refine hP.mono ?_; rintro e w1 ⟨rfl, hb1⟩)); have HPS1 := hid (HPS.out.below hb1); have HRK1 := hid (HRK.out.below hb1); have HGR1 := hid (zad HGR.out (zah hb1 (some bp))); have hlt1 : ∀ b, Value.ownBlock u5 = some b -> b < w1.heap.size := fun b hb => zLd (HRK.out.row.lt b hb).2 hb1.size; have hsz1 : w.heap.size <= w1.heap.size := Nat.le_trans hsz hb1.size; clear hb1 HPS HRK HGR hsz hP; cases hx2 : zgB s g deep q with
    | error e =>
     have hR2 : R = .error e := by rw [HL.out, hx2]
     refine (IH.out g (by omega) bp s q deep w1 HPS1.out hs hdeep (by rw [hx2, <- hR2]; exact HOK.out)).mono ?_; intro r w2 hr; rw [hx2] at hr; obtain ⟨rfl, hg2⟩ := hr; refine ⟨rfl, ?_⟩; rw [hR2]; exact ⟨rfl, zad HGR1.out hg2⟩
    | ok tq =>
     obtain ⟨t, q1⟩ := tq; refine (IH.out g (by omega) bp s q deep w1 HPS1.out hs hdeep (by rw [hx2]; exact fun h => by cases h)).mono ?_; intro r w2 hr; rw [hx2] at hr; obtain ⟨v, rfl, htr, hp2, hg2⟩ := hr; have HTR := hid htr; have HP2 := hid hp2; have HG2 := hid hg2; have HX2 := hid hx2; clear htr hp2 hg2 hx2; have hbp1 : bp < w1.heap.size := by omega
     go_wp2_with (fail); cases hx3 : zer s q1 t with
     | error e =>
      have hR2 : R = .error e := by rw [HL.out, HX2.out]; simp only; rw [hx3]
      refine (ziw bp s q1 w1.heap.size w2 t v HP2.out hs hbp1 HG2.out.size HTR.out).mono ?_; intro r w3 hr; rw [hx3] at hr; obtain ⟨rfl, hg3⟩ := hr; refine ⟨rfl, ?_⟩; rw [hR2]; exact ⟨rfl, zad HGR1.out (zad HG2.out hg3)⟩
     | ok uq =>
      obtain ⟨u, q2⟩ := uq; have hR2 : R = rowP s g deep q2 (l ++ [u]) := by rw [HL.out, HX2.out]; simp only; rw [hx3]
      refine (ziw bp s q1 w1.heap.size w2 t v HP2.out hs hbp1 HG2.out.size HTR.out).mono ?_; intro r w3 hr; rw [hx3] at hr; obtain ⟨v3, rfl, htr3, hp3, hg3⟩ := hr; obtain ⟨y3, rfl, _⟩ := zcP u v3 _ w3 htr3; have HRK3 := hid ((HRK1.out.grown hbp hbp HG2.out).grown hbp hbp hg3); have HTR3 : Hid (zar (fun b => w.heap.size <= b /\ Value.ownBlock u5 ≠ some b) w3 u (.iface (plT u) y3)) := hid (htr3.weak fun b hb _ => ⟨Nat.le_trans hsz1 hb, fun e => by have := hlt1 b e; have : w1.heap.size <= b := hb; omega⟩); have HP3 := hid hp3
      have hgr3 := zad HGR1.out (zad HG2.out hg3); have HGR3 := hid hgr3; have HR2 := hid hR2; have hszz := hgr3.size; have HX3 := hid hx3; clear htr3 hp3 hg3 hgr3 hR2 hx3 HTR HP2 HG2 HRK1 HGR1 HPS1; go_wp2_with (at_builtin; refine zan _ rfl _ _ rfl zih _ _ _ rfl (by exact (HRK3.out.alloc _).row) ⟨_, 0, none⟩ 1 1 [Value.iface (plT u) y3] rfl rfl (zaD _ #[Value.iface (plT u) y3] _ _ (by simp)) (by simp [Value.oneCell']) (by decide) (by omega) (by decide) ?_; intro v' w' hrow' hgr' hbl')
      have hbA := (Below.refl _ w3).alloc (Nat.le_refl _) (.cells #[Value.iface (plT u) y3] 138); have hszA : w.heap.size <= (w3.alloc (.cells #[Value.iface (plT u) y3] 138)).heap.size := by simp; omega
      obtain ⟨n1, n2⟩ := (HRK3.out.alloc (.cells #[Value.iface (plT u) y3] 138)).append hszA (HTR3.out.below hbA) hrow' hgr' hbl'; have hps' := (HP3.out.below hbA).apart hgr' (fun b hb => by have := HRK3.out.fresh b hb; omega); have hgr2 := zcZ hgr' HRK3.out.fresh hszA (zad HGR3.out (zah hbA _)); go_roundg g
      case rel => exact ⟨l ++ [u], _, q2, g, rfl, by simp; omega, HR2.out, n1, hps', hgr2⟩
      all_goals (have := HGG.out; omega)
theorem altP_succ (s : ByteArray) (f deep p : Nat) : altP s (f + 1) deep p =
 match rowP s f deep p [] with
 | .error e => .error e
 | .ok (t, q) => zc3 s f deep q t := by rw [altP]; rfl
theorem ziV (s : ByteArray) (f deep p : Nat) (t : Tree) : zc3 s (f + 1) deep p t =
 match zbp s p with
 | .error e => .error e
 | .ok c =>
  if c = 124 then
   match rowP s f deep (p + 1) [] with
   | .error e => .error e
   | .ok (u, q) => zc3 s f deep q (.either t u)
  else .ok (t, p) := by rw [zc3]; rfl
theorem TOut.weak {bp : Nat} {s : ByteArray} {W W' : Nat} {w : World} {x : Except Err (Tree × Nat)} {r : Ending} {w' : World} (h : TOut bp s W w x r w') (hW : W' <= W) : TOut bp s W' w x r w' := by
 cases x with
 | error e => exact h
 | ok tq =>
  obtain ⟨v, h1, h2, h3, h4⟩ := h; exact ⟨v, h1, h2.weak fun g hg _ => Nat.le_trans hW hg, h3, h4⟩
theorem alt_any (f : Nat) (ih : ∀ g, g < f -> RowC g) : AltC f := by
 intro bp s p deep w h hs hdeep hok; cases f with
 | zero => rw [altP] at hok; exact absurd rfl hok
 | succ f =>
 rw [altP_succ] at hok ⊢; have H := hid h; have IH := hid ih; have hbp := h.lt; clear h ih; cases hx : rowP s f deep p [] with
 | error e =>
  rw [hx] at hok; simp only at hok; have hP := IH.out f (by omega) bp s p deep w H.out hs hdeep (by rw [hx]; exact hok); rw [hx] at hP; clear hok hx; go_enter Tryz.func79, Tryz.ntmps79; go_wp2_with (first | (go_at_call 97; refine hP.mono ?_; rintro r w1 ⟨rfl, hg1⟩)); exact ⟨rfl, rfl, hg1⟩
 | ok tq =>
  obtain ⟨t, q⟩ := tq; rw [hx] at hok; simp only at hok ⊢; generalize hR : zc3 s f deep q t = R at *; have HOK := hid hok; have HR := hid hR; have hP := IH.out f (by omega) bp s p deep w H.out hs hdeep (by rw [hx]; exact fun h => by cases h); rw [hx] at hP; clear hok hx hR; go_enter Tryz.func79, Tryz.ntmps79; go_wp2_with (first | (go_at_call 97; refine hP.mono ?_; rintro r w1 ⟨v1, rfl, htr1, hps1, hgr1⟩)); have HTR1 := hid htr1; have HPS1 := hid hps1; have HGR1 := hid hgr1; clear htr1 hps1 hgr1 hP
  go_loopg [5] f (fun gh o wr => ∃ (t : Tree) (q g : Nat), g = gh /\ g <= f /\ R = zc3 s g deep q t /\ zar (Fr w.heap.size) wr t o /\ PS bp s q wr /\ w.grownBy wr (some bp))
  case atStart => exact ⟨t, q, f, rfl, Nat.le_refl _, HR.out.symm, HTR1.out, HPS1.out, HGR1.out⟩
  case round =>
   obtain ⟨t, q, g, hgg, hgf, hloop, htr, hps, hgr⟩ := hrel; have HTR := hid htr; have HPS := hid hps; have HGR := hid hgr; have HGG := hid hgg; clear htr hgr hgg; cases g with
   | zero =>
    rw [zc3] at hloop; exact absurd hloop HOK.out
   | succ g =>
    rw [ziV] at hloop; cases hx : zbp s q with
    | error e =>
     have HC : Hid (R = .error e) := hid (by rw [hloop, hx]); have hP := zcy bp s q _ e hps hx; clear hloop hx hps; go_wp2_with (first | (go_at_call 98; refine hP.mono ?_; rintro e w1 ⟨rfl, hb1⟩)); refine ⟨rfl, ?_⟩; rw [HC.out]; exact ⟨rfl, zad HGR.out (zah hb1 _)⟩
    | ok c =>
     have hP := zbH bp s q _ c hps hx; have HX := hid hx; rw [hx] at hloop; simp only at hloop; clear hx hps; by_cases h124 : c = 124
     . subst h124
       rw [if_pos rfl] at hloop; have HL := hid hloop; clear hloop; go_wp2_with (first | (go_at_call 98; refine hP.mono ?_; rintro e w2 ⟨rfl, hb2⟩; have HPS2 := hid (HPS.out.below hb2)) | (go_at_call 99; refine (zcM bp s q _ 124 (q + 1) HPS2.out (zbE HX.out (by decide) (by decide))).mono ?_; rintro e w3 ⟨rfl, hps3, hg3⟩)); have HTR3 := hid ((HTR.out.below hb2).grown hbp hg3); have HPS3 := hid hps3; have HGR3 := hid (zad HGR.out (zad (zah hb2 (some bp)) hg3)); clear hb2 hps3 hg3 HPS2 HTR HPS HGR hP
       cases hx2 : rowP s g deep (q + 1) [] with
       | error e =>
        have hR2 : R = .error e := by rw [HL.out, hx2]
        refine (IH.out g (by omega) bp s (q + 1) deep w3 HPS3.out hs hdeep (by rw [hx2, <- hR2]; exact HOK.out)).mono ?_; intro r w4 hr; rw [hx2] at hr; obtain ⟨rfl, hg4⟩ := hr; refine ⟨rfl, ?_⟩; rw [hR2]; exact ⟨rfl, zad HGR3.out hg4⟩
       | ok uq =>
        obtain ⟨u, q2⟩ := uq; have hR2 : R = zc3 s g deep q2 (.either t u) := by rw [HL.out, hx2]
        refine (IH.out g (by omega) bp s (q + 1) deep w3 HPS3.out hs hdeep (by rw [hx2]; exact fun h => by cases h)).mono ?_; intro r w4 hr; rw [hx2] at hr; obtain ⟨v4, rfl, htr4, hps4, hg4⟩ := hr; have hte := zio (HTR3.out.grown hbp hg4) (htr4.weak (T := Fr w.heap.size) fun b hb _ => Nat.le_trans HGR3.out.size hb); obtain ⟨x0, e0, _⟩ := zcP t _ _ w3 HTR3.out; obtain ⟨x4, rfl, _⟩ := zcP u v4 _ w4 htr4; subst e0; have HTE := hid hte; have HPS4 := hid hps4; have HGR4 := hid (zad HGR3.out hg4); have HR2 := hid hR2
        clear hte hps4 hg4 htr4 hR2 hx2 HTR3 HPS3 HGR3; go_wp2_with (fail); go_roundg g
        case rel => exact ⟨.either t u, q2, g, rfl, by omega, HR2.out, HTE.out, HPS4.out, HGR4.out⟩
        all_goals (have := HGG.out; omega)
     rw [if_neg h124] at hloop
     have e1 : (c == 124) = false := by simp [h124]
     have HL := hid hloop; clear hloop; go_wp2_with (first | (go_at_call 98; refine hP.mono ?_; rintro e w2 ⟨rfl, hb2⟩)); go_ret; rw [HL.out]; exact ⟨_, rfl, HTR.out.below hb2, HPS.out.below hb2, zad HGR.out (zah hb2 _)⟩
end
section
open Go.RowKit Go.Lib
theorem zkE (s : ByteArray) (f deep p : Nat) : zgB s (f + 1) deep p =
 match zbp s p with
 | .error e => .error e
 | .ok c =>
  if c = 40 then
   if deep = 8 then .error (5, p) else
    match altP s f (deep + 1) (p + 1) with
    | .error e => .error e
    | .ok (t, q) =>
     match zbp s q with
     | .error e => .error e
     | .ok d => if d = 41 then .ok (t, q + 1) else .error (2, q)
  else if c = 91 then
   match zdn s (p + 1) p with
   | .error e => .error e
   | .ok (l, q) => .ok (.cls l, q)
  else if c = 46 then .ok (.cls [(0, 9), (11, 1114111)], p + 1)
  else if c = 93 \/ c = 123 \/ c = 125 \/ c = 42 \/ c = 43 \/ c = 63 then .error (2, p)
  else
   match zaV s p with
   | .error e => .error e
   | .ok (x, q) => .ok (.cls [(x, x)], q) := by rw [zgB]; rfl
theorem ziL {w : World} (l : List (Int × Int)) (hl : 0 < l.length) (hlm : l.length <= 1000) (b : Nat) (hb : w.heap[b]? = some (.cells (flat l).toArray 210 (0, 0))) : zbq w (.slice (some ⟨b, 0, none⟩) l.length l.length) l :=
 ⟨zib l, .inr ⟨b, l.length, _, rfl, Nat.zero_le _, hb, Nat.le_refl _, by unfold maxLen; omega, by simp [zib], by simp [<- zib]⟩⟩
theorem atom_any (f : Nat) (ih : ∀ g, g < f -> AltC g) : AtomC f := by
 intro bp s p deep w h hs hdeep hok; cases f with
 | zero => rw [zgB] at hok; exact absurd rfl hok
 | succ f =>
 obtain ⟨d0, d1, g1⟩ := h.cells; have H := hid h; have IH := hid ih; have hbp := h.lt; generalize hR : zgB s (f + 1) deep p = R at *; rw [zkE] at hR; have HOK := hid hok; clear ih hok; cases hx : zbp s p with
 | error e =>
  have HC : Hid (R = .error e) := hid (by rw [<- hR, hx]); have hP := zcy bp s p w e h hx; clear h hx hR; go_enter Tryz.func113, Tryz.ntmps113; go_wp2_with (first | (go_at_call 98; refine hP.mono ?_; rintro e w1 ⟨rfl, hb1⟩)); refine ⟨rfl, ?_⟩; rw [HC.out]; exact ⟨rfl, zah hb1 _⟩
 | ok c =>
  have hP := zbH bp s p w c h hx; have HX := hid hx; rw [hx] at hR; simp only at hR; clear h hx; by_cases h40 : c = 40
  . subst h40
    rw [if_pos rfl] at hR; by_cases h8 : deep = 8
    . rw [if_pos h8] at hR
      have HC := hid hR.symm; have e8 : ((deep : Int) == 8) = true := by simp; omega
      clear hR; go_enter Tryz.func113, Tryz.ntmps113; go_wp2_with (first | (go_at_call 98; refine hP.mono ?_; rintro e w1 ⟨rfl, hb1⟩) | (go_at_call 80; refine (zaU 5 p _).mono ?_; rintro e w' ⟨rfl, rfl⟩)); refine ⟨rfl, ?_⟩; rw [HC.out]; exact ⟨rfl, zah hb1 _⟩
    rw [if_neg h8] at hR
    have HR := hid hR; have e8 : ((deep : Int) == 8) = false := by simp; omega
    have htk := hid (zbE HX.out (by decide) (by decide)); clear hR; go_enter Tryz.func113, Tryz.ntmps113; go_wp2_with (first | (go_at_call 98; refine hP.mono ?_; rintro e w1 ⟨rfl, hb1⟩; have H1 := hid (H.out.below hb1)) | (go_at_call 99; refine (zcM bp s p _ 40 (p + 1) H1.out htk.out).mono ?_; rintro e w2 ⟨rfl, hps2, hg2⟩)); have HPS2 := hid hps2; have HGR2 := hid (zad (zah hb1 (some bp)) hg2); clear hb1 hps2 hg2 H1 hP; cases hx2 : altP s f (deep + 1) (p + 1) with
    | error e =>
     have hR2 : R = .error e := by rw [<- HR.out, hx2]
     refine (IH.out f (by omega) bp s (p + 1) (deep + 1) w2 HPS2.out hs (by omega) (by rw [hx2, <- hR2]; exact HOK.out)).mono ?_; intro r w3 hr; rw [hx2] at hr; obtain ⟨rfl, hg3⟩ := hr; refine ⟨rfl, ?_⟩; rw [hR2]; exact ⟨rfl, zad HGR2.out hg3⟩
    | ok tq =>
     obtain ⟨t, q⟩ := tq; refine (IH.out f (by omega) bp s (p + 1) (deep + 1) w2 HPS2.out hs (by omega) (by rw [hx2]; exact fun h => by cases h)).mono ?_; intro r w3 hr; rw [hx2] at hr; obtain ⟨v3, rfl, htr3, hps3, hg3⟩ := hr; have hR2 := HR.out; rw [hx2] at hR2; simp only at hR2; have HTR3 := hid (htr3.weak (T := Fr w.heap.size) fun b hb _ => Nat.le_trans HGR2.out.size hb); have HPS3 := hid hps3; have HGR3 := hid (zad HGR2.out hg3); clear htr3 hps3 hg3 HPS2 HGR2 HR hx2; cases hx3 : zbp s q with
     | error e =>
      rw [hx3] at hR2; have HR2 := hid hR2; clear hR2; go_wp2_with (first | (go_at_call 98; refine (zcy bp s q _ e HPS3.out hx3).mono ?_; rintro e w4 ⟨rfl, hb4⟩)); refine ⟨rfl, ?_⟩; rw [<- HR2.out]; exact ⟨rfl, zad HGR3.out (zah hb4 _)⟩
     | ok d =>
      rw [hx3] at hR2; simp only at hR2; have HX3 := hid hx3; clear hx3; by_cases h41 : d = 41
      . subst h41
        rw [if_pos rfl] at hR2; have HR2 := hid hR2; have htk3 := hid (zbE HX3.out (by decide) (by decide)); clear hR2; go_wp2_with (first | (go_at_call 98; refine (zbH bp s q _ 41 HPS3.out HX3.out).mono ?_; rintro e w4 ⟨rfl, hb4⟩; have H4 := hid (HPS3.out.below hb4)) | (go_at_call 99; refine (zcM bp s q _ 41 (q + 1) H4.out htk3.out).mono ?_; rintro e w5 ⟨rfl, hps5, hg5⟩)); go_ret; rw [<- HR2.out]; exact ⟨_, rfl, (HTR3.out.below hb4).grown hbp hg5, hps5, zad HGR3.out (zad (zah hb4 _) hg5)⟩
      rw [if_neg h41] at hR2
      have HR2 := hid hR2; have e41 : (d != 41) = true := by simp [h41]
      clear hR2; go_wp2_with (first | (go_at_call 98; refine (zbH bp s q _ d HPS3.out HX3.out).mono ?_; rintro e w4 ⟨rfl, hb4⟩; have H4 := hid (HPS3.out.below hb4); obtain ⟨k0, k1, k2⟩ := H4.out.cells) | (go_at_call 80; refine (zaU 2 q _).mono ?_; rintro e w' ⟨rfl, rfl⟩)); refine ⟨rfl, ?_⟩; rw [<- HR2.out]; exact ⟨rfl, zad HGR3.out (zah hb4 _)⟩
  rw [if_neg h40] at hR
  have e40 : (c == 40) = false := by simp [h40]
  by_cases h91 : c = 91
  . subst h91
    rw [if_pos rfl] at hR; have HR := hid hR; have htk := hid (zbE HX.out (by decide) (by decide)); clear hR; go_enter Tryz.func113, Tryz.ntmps113; go_wp2_with (first | (go_at_call 98; refine hP.mono ?_; rintro e w1 ⟨rfl, hb1⟩; have H1 := hid (H.out.below hb1)) | (go_at_call 99; refine (zcM bp s p _ 91 (p + 1) H1.out htk.out).mono ?_; rintro e w2 ⟨rfl, hps2, hg2⟩)); have HPS2 := hid hps2; have HGR2 := hid (zad (zah hb1 (some bp)) hg2); clear hb1 hps2 hg2 H1 hP; refine (class_any bp s (p + 1) p w2 HPS2.out hs).mono ?_; intro r w3 hr
    cases hx2 : zdn s (p + 1) p with
    | error e =>
     rw [hx2] at hr; obtain ⟨rfl, hg3⟩ := hr; refine ⟨rfl, ?_⟩; rw [<- HR.out, hx2]; exact ⟨rfl, zad HGR2.out hg3⟩
    | ok lq =>
     obtain ⟨l, q⟩ := lq; rw [hx2] at hr; obtain ⟨v3, rfl, htr3, hps3, hg3⟩ := hr; have HTR3 := hid ((show zar (Fr w2.heap.size) w3 (.cls l) v3 from htr3).weak (T := Fr w.heap.size) fun b hb _ => Nat.le_trans HGR2.out.size hb); have HPS3 := hid hps3; have HGR3 := hid (zad HGR2.out hg3); have hR2 := HR.out; rw [hx2] at hR2; have HR2 := hid hR2; clear htr3 hps3 hg3 HR HPS2 HGR2 hx2 hR2; go_wp2_with (fail); go_ret; rw [<- HR2.out]; exact ⟨_, rfl, HTR3.out, HPS3.out, HGR3.out⟩
  rw [if_neg h91] at hR
  have e91 : (c == 91) = false := by simp [h91]
  by_cases h46 : c = 46
  . subst h46
    rw [if_pos rfl] at hR; have HR := hid hR; have htk := hid (zbE HX.out (by decide) (by decide)); clear hR; go_enter Tryz.func113, Tryz.ntmps113; go_wp2_with (first | (go_at_call 98; refine hP.mono ?_; rintro e w1 ⟨rfl, hb1⟩; have H1 := hid (H.out.below hb1)) | (go_at_call 99; refine (zcM bp s p _ 46 (p + 1) H1.out htk.out).mono ?_; rintro e w2 ⟨rfl, hps2, hg2⟩)); go_ret; rw [<- HR.out]; have hg2' := zad (zah hb1 (some bp)) hg2
    have hbA := (Below.refl _ w2).alloc (Nat.le_refl _) (.cells #[.int .i32 0, .int .i32 9, .int .i32 11, .int .i32 1114111] 210); exact ⟨_, rfl, zfE (ziL [(0, 9), (11, 1114111)] (by decide) (by decide) w2.heap.size ((zap w2 _ _).trans (if_pos rfl))) (fun b hb => by cases hb; exact hg2'.size), hps2.below hbA, zad hg2' (zah hbA _)⟩
  rw [if_neg h46] at hR
  have e46 : (c == 46) = false := by simp [h46]
  by_cases hbad : c = 93 \/ c = 123 \/ c = 125 \/ c = 42 \/ c = 43 \/ c = 63
  . rw [if_pos hbad] at hR
    have HR := hid hR; clear hR
    rcases hbad with rfl | rfl | rfl | rfl | rfl | rfl
    all_goals
     go_enter Tryz.func113, Tryz.ntmps113; go_wp2_with (first | (go_at_call 98; refine hP.mono ?_; rintro e w1 ⟨rfl, hb1⟩) | (go_at_call 80; refine (zaU 2 p _).mono ?_; rintro e w' ⟨rfl, rfl⟩)); refine ⟨rfl, ?_⟩; rw [<- HR.out]; exact ⟨rfl, zah hb1 _⟩
  rw [if_neg hbad] at hR
  have HR := hid hR; have e1 : (c == 93) = false := by simp; omega
  have e2 : (c == 123) = false := by simp; omega
  have e3 : (c == 125) = false := by simp; omega
  have e4 : (c == 42) = false := by simp; omega
  have e5 : (c == 43) = false := by simp; omega
  have e6 : (c == 63) = false := by simp; omega
  clear hR hbad; go_enter Tryz.func113, Tryz.ntmps113; go_wp2_with (first | (go_at_call 98; refine hP.mono ?_; rintro e w1 ⟨rfl, hb1⟩; have H1 := hid (H.out.below hb1))); refine (zhh bp s p w1 H1.out).mono ?_; intro r w2 hr; cases hx2 : zaV s p with
  | error e =>
   rw [hx2] at hr; obtain ⟨rfl, hg2⟩ := hr; refine ⟨rfl, ?_⟩; rw [<- HR.out, hx2]; exact ⟨rfl, zad (zah hb1 _) hg2⟩
  | ok cq =>
   obtain ⟨y, q⟩ := cq; rw [hx2] at hr; obtain ⟨v, rfl, rfl, hps2, hg2⟩ := hr; have hR2 := HR.out; rw [hx2] at hR2; have HR2 := hid hR2; have hg2' := zad (zah hb1 (some bp)) hg2; have HPS2 := hid hps2; have HGR2 := hid hg2'; clear hR2 HR hg2 hg2' hps2 hb1 hx2 H1; go_wp2_with (fail); go_ret; rw [<- HR2.out]; have hbA := (Below.refl _ w2).alloc (Nat.le_refl _) (.cells #[.int .i32 y, .int .i32 y] 210)
   exact ⟨_, rfl, zfE (ziL [(y, y)] (by simp) (by simp) w2.heap.size ((zap w2 _ _).trans (if_pos rfl))) (fun b hb => by cases hb; exact HGR2.out.size), HPS2.out.below hbA, zad HGR2.out (zah hbA _)⟩
theorem parse_all (f : Nat) (hf : f <= 1000) : ∀ g, g <= f -> RowC g /\ AtomC g /\ AltC g := by
 intro g
 induction g using Nat.strongRecOn with
 | ind g ih =>
  intro hg; exact ⟨row_any g (by omega) fun k hk => (ih k hk (by omega)).2.1, atom_any g fun k hk => (ih k hk (by omega)).2.2, alt_any g fun k hk => (ih k hk (by omega)).1⟩
end
section
open Go.RowKit Go.Lib
theorem zca {w : World} {a : Addr} {v : Value} (h : w.cell? a = some v) : a.block < w.heap.size := by
 rcases Nat.lt_or_ge a.block w.heap.size with h2 | h2
 . exact h2
 rw [World.cell?, Array.getElem?_eq_none h2] at h
 cases h
theorem zk4 (a b : Addr) (w : World) :
 CallsD Tryz.prog 78 #[.pointer (some a), .pointer (some b)] .returning w fun e u' w' => e = .returned (.tuple #[]) /\ u' = .returning /\ w' = w := by
 refine callsD_of_wpS Tryz.func78 rfl fun c₀ cs hu => ?_; apply wpS_seq; apply wpS_region; generalize hQ : Exit.thenS _ _ = Q; simp [wpOpsS, go_sem, recoverD, hu, Tryz.ntmps78]; subst hQ; simp only [Exit.thenS]; refine wpS_of_wp (wp_mono (Q := fun en a' w' => en = .normal /\ a'.defers = [] /\ w' = w) ?_ ?_)
 . change Code.wp _ _ _ { tmps := #[.pointer (some a), .pointer (some b), undef, undef, undef, .nilIface, undef, undef, undef, undef, undef, undef, undef, undef, undef, undef, undef, undef], defers := [] } w
   go_wp2
   all_goals trivial
 rintro e a' w' ⟨rfl, hd, rfl⟩
 cases c₀; simp_all [bodyPostS, results, Tryz.results78]
theorem zix (v : Value) (w : World) : (Instr.typeAssert (.iface 193 v) 20 193 true).run Tryz.prog w = .ok (.tuple #[v, .bool true]) w := by kernel_rfl
theorem zgM (ba bb : Nat) (x y : Value) (e k : Nat) (w : World) (ha : w.cell? ⟨ba, 0, none⟩ = some x) (hb : w.cell? ⟨bb, 0, none⟩ = some y) (fa : w.frozen? ⟨ba, 0, none⟩ = false) (fb : w.frozen? ⟨bb, 0, none⟩ = false) (hab : ba ≠ bb) :
 CallsD Tryz.prog 78 #[.pointer (some ⟨ba, 0, none⟩), .pointer (some ⟨bb, 0, none⟩)] (.panicking [{ v := wrongV e k, recovered := false }]) w fun r u' w' =>
  r = .returned (.tuple #[]) /\ u' = .panicking [{ v := wrongV e k, recovered := true }] /\ w' = ((((w.setCell ⟨ba, 0, none⟩ .nilIface).setCell ⟨bb, 0, none⟩ (.iface 82 (.pointer (some ⟨w.heap.size + 1, 0, none⟩)))).alloc (.cells #[.int .i64 e, .int .i64 k] 193)).alloc (.cells #[.int .i64 e, .int .i64 0, .int .i64 k] 86)).drew := by
 refine callsD_of_wpS Tryz.func78 rfl fun c₀ cs hu => ?_; apply wpS_seq; apply wpS_region; generalize hQ : Exit.thenS _ _ = Q; simp [wpOpsS, go_sem, recoverD, hu, Tryz.ntmps78]; subst hQ; simp only [Exit.thenS]; refine wpS_of_wp (wp_mono (Q := fun en a' w' => en = .normal /\ a'.defers = [] /\ w' = ((((w.setCell ⟨ba, 0, none⟩ .nilIface).setCell ⟨bb, 0, none⟩ (.iface 82 (.pointer (some ⟨w.heap.size + 1, 0, none⟩)))).alloc (.cells #[.int .i64 e, .int .i64 k] 193)).alloc (.cells #[.int .i64 e, .int .i64 0, .int .i64 k] 86)).drew) ?_ ?_)
 . change Code.wp _ _ _ { tmps := #[.pointer (some ⟨ba, 0, none⟩), .pointer (some ⟨bb, 0, none⟩), undef, undef, undef, .iface 193 (.agg #[.int .i64 e, .int .i64 k]), undef, undef, undef, undef, undef, undef, undef, undef, undef, undef, undef, undef], defers := [] } w
   have hta := zix (.agg #[.int .i64 e, .int .i64 k]); have la := zca ha; have lb := zca hb; go_wp2; go_region_with (fail)
   all_goals go_wp2
   all_goals rfl
 rintro en a' w' ⟨rfl, hd, h⟩
 cases c₀; simp_all [bodyPostS, results, Tryz.results78]
theorem zgg (w : World) (ba bb e k : Nat) (ta tb : TypeId) {xa xb : Value} (ha : w.heap[ba]? = some (.cells #[xa] ta (0, 0))) (hb : w.heap[bb]? = some (.cells #[xb] tb (0, 0))) (hab : ba ≠ bb) :
 let w' := ((((w.setCell ⟨ba, 0, none⟩ .nilIface).setCell ⟨bb, 0, none⟩ (.iface 82 (.pointer (some ⟨w.heap.size + 1, 0, none⟩)))).alloc (.cells #[.int .i64 e, .int .i64 k] 193)).alloc (.cells #[.int .i64 e, .int .i64 0, .int .i64 k] 86)).drew
 (w'.heap[ba]? = some (.cells #[.nilIface] ta (0, 0)) /\ w'.heap[bb]? = some (.cells #[.iface 82 (.pointer (some ⟨w.heap.size + 1, 0, none⟩))] tb (0, 0)) /\ w'.heap[w.heap.size + 1]? = some (.cells #[.int .i64 e, .int .i64 0, .int .i64 k] 86 (0, 0))) /\
 (∀ B, B <= ba -> B <= bb -> Below B w w') := by
 intro w'; have la := zaa ha; have lb := zaa hb; have s1 : (w.setCell ⟨ba, 0, none⟩ .nilIface).heap.size = w.heap.size := by simp
 have h1 : ((w.setCell ⟨ba, 0, none⟩ .nilIface).setCell ⟨bb, 0, none⟩ (.iface 82 (.pointer (some ⟨w.heap.size + 1, 0, none⟩)))).heap[ba]? = some (.cells #[.nilIface] ta (0, 0)) := by
  rw [zaf _ _ _ _ (by simpa using hab), zac w ba 0 .nilIface _ _ _ ha]; rfl
 have h2 : ((w.setCell ⟨ba, 0, none⟩ .nilIface).setCell ⟨bb, 0, none⟩ (.iface 82 (.pointer (some ⟨w.heap.size + 1, 0, none⟩)))).heap[bb]? = some (.cells #[.iface 82 (.pointer (some ⟨w.heap.size + 1, 0, none⟩))] tb (0, 0)) := by
  rw [zac _ bb 0 _ _ _ _ ((zaf _ _ _ _ (by simpa using hab.symm)).trans hb)]; rfl
 refine ⟨⟨?_, ?_, ?_⟩, fun B hA hB => ?_⟩
 . show (World.alloc _ _).heap[ba]? = _
   rw [zap, if_neg (by simp; omega), zap, if_neg (by simp; omega)]; exact h1
 . show (World.alloc _ _).heap[bb]? = _
   rw [zap, if_neg (by simp; omega), zap, if_neg (by simp; omega)]; exact h2
 . show (World.alloc _ _).heap[_]? = _
   rw [zap, if_pos (by simp)]
 exact (((((Below.refl B w).setCell hA _).setCell hB _).alloc (by simp; omega) _).alloc (by simp; omega) _).drew
theorem zeb {a b : World} {g B : Nat} (h : a.grownBy b (some g)) (hB : B <= g) (hBa : B <= a.heap.size) : Below B a b :=
 ⟨h.os, h.tape, h.output, h.size, fun k hk => h.block k (by omega) (fun e => by cases e; omega)⟩
def PRes (s : ByteArray) (w : World) (r : Ending) (w' : World) : Prop :=
 match zds s with
 | .ok t => ∃ v, r = .returned (.tuple #[v, .nilIface]) /\ zar (Fr w.heap.size) w' t v
 | .error e => ∃ b, r = .returned (.tuple #[.nilIface, .iface 82 (.pointer (some ⟨b, 0, none⟩))]) /\ w'.heap[b]? = some (.cells #[.int .i64 e.1, .int .i64 0, .int .i64 e.2] 86 (0, 0)) /\ w.heap.size <= b
theorem start_ps (s : ByteArray) (w : World) (hs : s.size <= 60) (hT : Tabs w) (hg : Glob <= w.heap.size) :
 PS (w.heap.size + 1 + 1) s 0 (((w.alloc (.cells #[.nilIface] 138)).alloc (.cells #[.nilIface] 34)).alloc (.cells #[.string s, .int .i64 0] 196)) := by
 refine ⟨?_, ?_, by omega, by omega, Nat.zero_le _⟩
 . unfold PAt
   rw [zap, if_pos (by simp)]; rfl
 exact zaL (B := w.heap.size) hT ((((Below.refl _ w).alloc (Nat.le_refl _) _).alloc (by simp) _).alloc (by simp; omega) _) hg
theorem parse_any (s : ByteArray) (w : World) (hs : s.size <= 60) (hT : Tabs w) (hg : Glob <= w.heap.size) (hfuel : altP s (4 * s.size + 10) 0 0 ≠ .error (0, 0)) :
 Calls Tryz.prog 56 #[.string s] w fun r w' => PRes s w r w' /\ Below w.heap.size w w' := by
 have hmf : ∀ (fn : Fn) (first cap : Array Value) (w : World), (Instr.makeFunc fn first cap).run Tryz.prog w = .ok (.func fn first cap) w := fun _ _ _ _ => rfl; have hps := start_ps s w hs hT hg; have HF := hid hfuel; have HC : ∀ X, altP s (4 * s.size + 10) 0 0 = X -> zds s = match X with
  | .error e => .error e
  | .ok (t, q) => if q < s.size then .error (2, q) else .ok t := fun X h => by rw [zds, h]; rfl
 have HC2 := hid HC; clear hfuel HC
 go_enter_defers Tryz.func56, Tryz.ntmps56
 go_wp2_with (fail); have hbW := ((((Below.refl _ w).alloc (Nat.le_refl _) (.cells #[.nilIface] 138)).alloc (by simp) (.cells #[.nilIface] 34)).alloc (by simp; omega) (.cells #[.string s, .int .i64 0] 196)); generalize hW3 : ((w.alloc (.cells #[.nilIface] 138)).alloc (.cells #[.nilIface] 34)).alloc (.cells #[.string s, .int .i64 0] 196) = w3 at *; have hAlt := (parse_all (4 * s.size + 10) (by omega) (4 * s.size + 10) (Nat.le_refl _)).2.2 _ s 0 0 w3 hps hs (by omega) HF.out; refine hAlt.mono ?_; intro r w4 hr; have hsz3 : w.heap.size + 1 + 1 < w3.heap.size := hps.lt
 have ha3 : w3.heap[w.heap.size]? = some (.cells #[.nilIface] 138 (0, 0)) := by
  rw [<- hW3, zap, if_neg (by simp; omega), zap, if_neg (by simp), zap, if_pos rfl]
 have hb3 : w3.heap[w.heap.size + 1]? = some (.cells #[.nilIface] 34 (0, 0)) := by
  rw [<- hW3, zap, if_neg (by simp), zap, if_pos (by simp)]
 cases hx : altP s (4 * s.size + 10) 0 0 with
 | error e =>
  have hP := HC2.out _ hx; rw [hx] at hr; obtain ⟨rfl, hg4⟩ := hr; have ha4 := zcv ha3 hg4 (by omega); have hb4 := zcv hb3 hg4 (by omega); refine leaves_cons (f := 78) (args := #[.pointer (some ⟨w.heap.size, 0, none⟩), .pointer (some ⟨w.heap.size + 1, 0, none⟩)]) (by simp) (by simp [go_sem]) ?_; refine (zgM w.heap.size (w.heap.size + 1) .nilIface .nilIface e.1 e.2 w4 (zab w4 _ 0 _ _ _ ha4) (zab w4 _ 0 _ _ _ hb4) (zae w4 _ 0 _ _ ha4) (zae w4 _ 0 _ _ hb4) (by omega)).mono ?_; rintro r' u' w5 ⟨rfl, rfl, hw5⟩
  have hsz4 : w.heap.size + 1 + 1 < w4.heap.size := zLd hsz3 hg4.size; obtain ⟨hh5, hs5⟩ := zgg w4 w.heap.size (w.heap.size + 1) e.1 e.2 _ _ ha4 hb4 (by omega); rw [<- hw5] at hh5 hs5; have ha5 := zab w5 _ 0 _ _ _ hh5.1; have hb5 := zab w5 _ 0 _ _ _ hh5.2.1; simp only [zLa] at ha5 hb5; simp [Leaves, settle, results, Tryz.results56, go_sem, ha5, hb5]; refine ⟨?_, ?_⟩
  . unfold PRes
    rw [hP]; exact ⟨_, rfl, hh5.2.2, by omega⟩
  . exact hbW.trans ((zeb hg4 (by omega) (by omega)).trans (hs5 w.heap.size (Nat.le_refl _) (by omega)))
 | ok tq =>
  obtain ⟨t, q⟩ := tq; have hP := HC2.out _ hx; rw [hx] at hr; obtain ⟨v, rfl, htr, hps4, hg4⟩ := hr; have ha4 := zcv ha3 hg4 (by omega); have hb4 := zcv hb3 hg4 (by omega); have hca := zab w4 _ 0 _ _ _ ha4; have hcb := zab w4 _ 0 _ _ _ hb4; have hfa := zae w4 _ 0 _ _ ha4; have hfb := zae w4 _ 0 _ _ hb4; simp only [zLa] at hca hcb; obtain ⟨d0, d1, g1⟩ := hps4.cells; obtain ⟨x, rfl, _⟩ := zcP t v _ w4 htr; have hle := hps4.le; simp only at hP; by_cases hlt : q < s.size
  . have hz : (q : Int) < (s.size : Int) := by omega
    rw [if_pos hlt] at hP; go_wp2_with (go_at_call 80; refine (zaU 2 q _).mono ?_; rintro e w' ⟨rfl, rfl⟩); have hW4 : w3.grownBy (w4.setCell ⟨w.heap.size, 0, none⟩ (.iface (plT t) x)) (some (w.heap.size + 1 + 1)) \/ True := .inr trivial; have ha4' := zac w4 w.heap.size 0 (.iface (plT t) x) _ _ _ ha4; have hb4' := (zaf w4 ⟨w.heap.size, 0, none⟩ (.iface (plT t) x) (w.heap.size + 1) (by simp)).trans hb4
    have hbe : Below w.heap.size w4 (w4.setCell ⟨w.heap.size, 0, none⟩ (.iface (plT t) x)) := Below.setCell (Below.refl w.heap.size w4) (p := (⟨w.heap.size, 0, none⟩ : Addr)) (Nat.le_refl _) _; have hsz4 : w.heap.size + 1 + 1 < w4.heap.size := zLd hsz3 hg4.size; have hszs : (w4.setCell ⟨w.heap.size, 0, none⟩ (.iface (plT t) x)).heap.size = w4.heap.size := by simp
    generalize w4.setCell ⟨w.heap.size, 0, none⟩ (.iface (plT t) x) = w6 at *; refine leaves_cons (f := 78) (args := #[.pointer (some ⟨w.heap.size, 0, none⟩), .pointer (some ⟨w.heap.size + 1, 0, none⟩)]) (by simp) (by simp [go_sem]) ?_; refine (zgM w.heap.size (w.heap.size + 1) (.iface (plT t) x) .nilIface 2 q w6 (zab w6 _ 0 _ _ _ ha4') (zab w6 _ 0 _ _ _ hb4') (zae w6 _ 0 _ _ ha4') (zae w6 _ 0 _ _ hb4') (by omega)).mono ?_; rintro r' u' w5 ⟨rfl, rfl, hw5⟩; obtain ⟨hh5, hs5⟩ := zgg w6 w.heap.size (w.heap.size + 1) 2 q _ _ ha4' hb4' (by omega)
    rw [<- hw5] at hh5 hs5; have ha5 := zab w5 _ 0 _ _ _ hh5.1; have hb5 := zab w5 _ 0 _ _ _ hh5.2.1; simp only [zLa] at ha5 hb5; simp [Leaves, settle, results, Tryz.results56, go_sem, ha5, hb5]; refine ⟨?_, ?_⟩
    . unfold PRes
      rw [hP]; exact ⟨_, rfl, hh5.2.2, by omega⟩
    exact hbW.trans ((zeb hg4 (by omega) (by omega)).trans (hbe.trans (hs5 w.heap.size (Nat.le_refl _) (by omega))))
  rw [if_neg hlt] at hP
  have hz : ¬ (q : Int) < (s.size : Int) := by omega
  go_wp2_with (fail); have hsz4 : w.heap.size + 1 + 1 < w4.heap.size := zLd hsz3 hg4.size; have ha5 := zac _ w.heap.size 0 (.iface (plT t) x) _ _ _ (zac w4 w.heap.size 0 (.iface (plT t) x) _ _ _ ha4); have hb5 := ((zaf (w4.setCell ⟨w.heap.size, 0, none⟩ (.iface (plT t) x)) ⟨w.heap.size, 0, none⟩ (.iface (plT t) x) (w.heap.size + 1) (by simp)).trans (zaf w4 ⟨w.heap.size, 0, none⟩ (.iface (plT t) x) (w.heap.size + 1) (by simp))).trans hb4
  have ha6 := (zaf ((w4.setCell ⟨w.heap.size, 0, none⟩ (.iface (plT t) x)).setCell ⟨w.heap.size, 0, none⟩ (.iface (plT t) x)) ⟨w.heap.size + 1, 0, none⟩ .nilIface w.heap.size (by simp)).trans ha5; have hb6 := zac _ (w.heap.size + 1) 0 .nilIface _ _ _ hb5; have hk6 : ∀ g, w3.heap.size <= g -> (((w4.setCell ⟨w.heap.size, 0, none⟩ (.iface (plT t) x)).setCell ⟨w.heap.size, 0, none⟩ (.iface (plT t) x)).setCell ⟨w.heap.size + 1, 0, none⟩ .nilIface).heap[g]? = w4.heap[g]? := by
   intro g hg; rw [zaf _ _ _ _ (by simp; omega), zaf _ _ _ _ (by simp; omega), zaf _ _ _ _ (by simp; omega)]
  have hbe : Below w.heap.size w4 (((w4.setCell ⟨w.heap.size, 0, none⟩ (.iface (plT t) x)).setCell ⟨w.heap.size, 0, none⟩ (.iface (plT t) x)).setCell ⟨w.heap.size + 1, 0, none⟩ .nilIface) :=
   (((Below.refl w.heap.size w4).setCell (p := (⟨w.heap.size, 0, none⟩ : Addr)) (Nat.le_refl _) _).setCell (p := (⟨w.heap.size, 0, none⟩ : Addr)) (Nat.le_refl _) _).setCell (p := (⟨w.heap.size + 1, 0, none⟩ : Addr)) (Nat.le_succ _) _
  generalize ((w4.setCell ⟨w.heap.size, 0, none⟩ (.iface (plT t) x)).setCell ⟨w.heap.size, 0, none⟩ (.iface (plT t) x)).setCell ⟨w.heap.size + 1, 0, none⟩ .nilIface = w6 at *; refine leaves_cons (f := 78) (args := #[.pointer (some ⟨w.heap.size, 0, none⟩), .pointer (some ⟨w.heap.size + 1, 0, none⟩)]) (by simp) (by simp [go_sem]) ?_; refine (zk4 ⟨w.heap.size, 0, none⟩ ⟨w.heap.size + 1, 0, none⟩ w6).mono ?_; rintro r' u' w5 ⟨rfl, rfl, rfl⟩; have ca5 := zab w5 _ 0 _ _ _ ha6; have cb5 := zab w5 _ 0 _ _ _ hb6; simp at ca5 cb5
  simp [Leaves, settle, results, Tryz.results56, go_sem, ca5, cb5]; refine ⟨?_, ?_⟩
  . unfold PRes
    rw [hP]; exact ⟨_, rfl, htr.ext (fun g hg => by unfold Fr at *; omega) (fun g hg _ => hk6 g (by unfold Fr at hg; omega))⟩
  exact hbW.trans ((zeb hg4 (by omega) (by omega)).trans hbe)
end
end Go.Proofs.YtghpmhllpaheiaaGreatDoor
