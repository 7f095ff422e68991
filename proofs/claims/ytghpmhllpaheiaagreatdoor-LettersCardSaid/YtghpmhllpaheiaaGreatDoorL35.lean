/-
  Part of the proof: Lt1. No condition beyond those in the statements.
-/
import Derived.Test.YtghpmhllpaheiaaGreatDoorL28
import Derived.Test.YtghpmhllpaheiaaGreatDoorL34
set_option linter.unusedVariables false
set_option linter.unusedSimpArgs false
set_option maxRecDepth 100000
set_option maxHeartbeats 40000000
namespace Go.Proofs.YtghpmhllpaheiaaGreatDoor
open Go.RowKit Go.Lib
def StrsAt (w : World) (ao : Option Addr) (n : Nat) : Prop := n <= maxLen /\ ∀ i, i < n -> ∃ (s : ByteArray) (b off : Nat), ao = some ⟨b, off, none⟩ /\ w.cell? ⟨b, off + i, none⟩ = some (.string s) /\ b < w.heap.size
structure LtSt (w1 : World) (ws : List ByteArray) (v : Value) (wr : World) : Prop where
 len : ws.length <= 8
 sz : ∀ w ∈ ws, 1 <= w.size /\ w.size <= 7
 lt : ∀ w ∈ ws, letB w
 row : wr.ownsRow 0 9 1 v ws.length (ws.map Value.string)
 low : ∀ g, v.ownBlock = some g -> w1.heap.size <= g
 below : Below w1.heap.size w1 wr
def letC (b : Nat) : Nat := 97 + b % 3
theorem letC_lt (b : Nat) : 97 <= letC b /\ letC b <= 99 := by unfold letC; omega
theorem zky (w : World) (c : Nat) (hc : c < 256) : (convert 55 9 (.slice (some ⟨w.heap.size, 0, none⟩) 1 1)).run Tryz.prog (w.alloc (.cells #[.int .u8 (c : Int)] 5)) = .ok (.string ⟨#[UInt8.ofNat c]⟩) (w.alloc (.cells #[.int .u8 (c : Int)] 5)) := by
 have hb : byt (⟨#[UInt8.ofNat c]⟩ : ByteArray) 0 = c := by
  show (UInt8.ofNat c).toNat = c; simp; omega
 have h := zj4 ⟨#[UInt8.ofNat c]⟩ 1 w.heap.size 0 1 (w.alloc (.cells #[.int .u8 (c : Int)] 5)) (Nat.le_refl _) (fun i hi => by
  obtain rfl : i = 0 := by
   have : i < 1 := hi; omega
  rw [hb, zab _ _ _ _ _ _ (zaB _ _ _ rfl)]; rfl)
 rw [h]; congr 2
theorem let_app {u : ByteArray} (hu : letB u) (c : Nat) (hc : 97 <= c /\ c <= 99) : letB (u ++ ⟨#[UInt8.ofNat c]⟩) /\ (u ++ (⟨#[UInt8.ofNat c]⟩ : ByteArray)).size = u.size + 1 := by
 have hz : (u ++ (⟨#[UInt8.ofNat c]⟩ : ByteArray)).size = u.size + 1 := by rw [ByteArray.size_append]; rfl
 refine ⟨fun p hp => ?_, hz⟩; rw [hz] at hp
 rcases Nat.lt_or_ge p u.size with h | h
 . have : byt (u ++ ⟨#[UInt8.ofNat c]⟩) p = byt u p := by
    unfold byt; congr 1; simp only [ByteArray.get!]; rw [getElem!_def, getElem!_def]; have e : (u ++ (⟨#[UInt8.ofNat c]⟩ : ByteArray)).data[p]? = u.data[p]? := by
     rw [ByteArray.data_append, Array.getElem?_append_left h]
    rw [e]
   rw [this]; exact hu p h
 obtain rfl : p = u.size := by omega
 have : byt (u ++ ⟨#[UInt8.ofNat c]⟩) u.size = c := by
  unfold byt; simp only [ByteArray.get!]; rw [getElem!_def]; have e : (u ++ (⟨#[UInt8.ofNat c]⟩ : ByteArray)).data[u.size]? = some (UInt8.ofNat c) := by
   rw [ByteArray.data_append]; show (u.data ++ #[UInt8.ofNat c])[u.data.size]? = _; rw [show u.data ++ #[UInt8.ofNat c] = u.data.push (UInt8.ofNat c) by simp]; exact Array.getElem?_push_size
  rw [e]; show (UInt8.ofNat c).toNat = c; simp; omega
 rw [this]; exact hc
theorem LtSt.app {w1 : World} {ws : List ByteArray} {v : Value} {wr : World} (h : LtSt w1 ws v wr) {u : ByteArray} (h8 : ws.length < 8) (hu : letB u) (hz : 1 <= u.size /\ u.size <= 7) {o : Obj} {v4 : Value} {w4 : World} (hrow : w4.ownsRow 0 9 1 v4 (ws.length + 1) (ws.map Value.string ++ [.string u])) (hg : (wr.alloc o).grownBy w4 v.ownBlock) (hbl : v4.ownBlock = v.ownBlock \/ v4.ownBlock = some (wr.alloc o).heap.size) : LtSt w1 (ws ++ [u]) v4 w4 := by
 have hs := h.below.size; refine ⟨by simp; omega, fun x hx => ?_, fun x hx => ?_, by simpa using hrow, zc1 hbl h.low (by simp; omega), zcc (h.below.alloc hs o) hg (by simp; omega) h.low⟩
 . rcases List.mem_append.1 hx with hx | hx
   . exact h.sz x hx
   rw [List.mem_singleton] at hx; rw [hx]; exact hz
 rcases List.mem_append.1 hx with hx | hx
 . exact h.lt x hx
 rw [List.mem_singleton] at hx; rw [hx]; exact hu
theorem elemStr : zcp Tryz.prog 29 9 1 16 := zcp.of (z := .string ⟨#[]⟩) Tryz.underlying29 (by kernel_rfl) rfl (by decide)
theorem zjF (ao : Option Addr) (n cap : Nat) (t : ByteArray) (w : World) (hG : Gl w) (hS : StrsAt w ao n) :
 Calls Tryz.prog 6 #[.slice ao n cap, .string t] w fun e w' => e = .returned (.bool true) /\ Below w.heap.size w w' := by
 have htab := zk1 0 (by decide) w hG; have HG := hid hG; have HTAB := hid htab; have hn := hS.1; have HS := hid hS.2; clear hG htab hS; have hnm : (n : Int) <= 9223372036854775807 := by
  have : maxLen <= 9223372036854775807 := by decide
  omega
 have HN := hid hnm; clear hn hnm; go_enter Tryz.func6, Tryz.ntmps6; go_wp2_with (first | (go_at_call 12; refine (HTAB.out).mono ?_; rintro e w1 ⟨cb, rfl, hcm, hb1⟩; have H1 := hid (And.intro hcm hb1); clear hcm hb1)); go_loopw [6, 7] (fun s6 s7 wr => ∃ (i : Nat) (ws : List ByteArray) (ao6 : Option Addr) (cap6 : Nat), s7 = .int .i64 i /\ s6 = .slice ao6 ws.length cap6 /\ i <= n /\ LtSt w1 ws s6 wr) (fun _ s7 _ => n - (RowKit.intOf s7).toNat)
 case atStart => exact ⟨0, [], none, 0, rfl, rfl, Nat.zero_le _, ⟨by simp, by simp, by simp, World.ownsRow_nil _ _ _ _, fun g hg => (by cases hg), Below.refl _ _⟩⟩
 case round =>
  obtain ⟨i, ws, ao6, cap6, rfl, rfl, hi, hst⟩ := hrel; have HST := hid hst; clear hst; by_cases hgo : i < n /\ ws.length < 8
  . have z1 : (i : Int) < (n : Int) := by omega
    have z2 : (ws.length : Int) < 8 := by omega
    obtain ⟨s, b, off, rfl, hcs, hbs⟩ := HS.out i hgo.1; have hbl := zaF H1.out.2 HST.out.below H1.out.2.size; have rs := (zai hbl ⟨b, off + i, none⟩ hbs).trans hcs; have lb : b < wr.heap.size := zLd hbs hbl.size; have HBL := hid hbl; clear hcs hbl; have hwi : IntKind.i64.wrap ((i : Int) + 1) = (i : Int) + 1 := IntWalk.i64_in _ (by have := HN.out; omega); obtain ⟨w3, hw3⟩ : ∃ w3, w3 = wr := ⟨_, rfl⟩; rw [<- hw3] at rs lb HBL HST ⊢; clear hw3; go_wp2_with (fail)
    go_loopw [8, 9] (fun s8 s9 wr => ∃ (k : Nat) (u : ByteArray), s9 = .int .i64 k /\ s8 = .string u /\ u.size = k /\ letB u /\ k <= 7 /\ Below w3.heap.size w3 wr) (fun _ s9 _ => 7 - (RowKit.intOf s9).toNat)
    case atStart => exact ⟨0, ⟨#[]⟩, rfl, rfl, rfl, fun p hp => absurd hp (Nat.not_lt_zero _), by omega, Below.refl _ _⟩
    case round =>
     obtain ⟨k, u, rfl, rfl, huk, hul, hk7, hb3⟩ := hrel; have HU := hid (And.intro huk hul); have rs3 := (zai hb3 ⟨b, off + i, none⟩ lb).trans rs; have lb3 : b < wr.heap.size := zLd lb hb3.size; have hend : LtSt w1 ws (.slice ao6 ws.length cap6) wr := ⟨HST.out.len, HST.out.sz, HST.out.lt, zgF HST.out.row hb3 (fun g hg => (zcQ HST.out.row g hg).2), HST.out.low, zaF HST.out.below hb3 HST.out.below.size⟩; have HEND := hid hend; have HB3 := hid hb3; clear hb3 huk hul hend; by_cases hg2 : k < s.size /\ k < 7
     . have y1 : (k : Int) < (s.size : Int) := by omega
       have y2 : (k : Int) < 7 := by omega
       have hgb := zdE s k hg2.1; have hbl := zbR s k; have hlc := letC_lt (byt s k); have hwk : IntKind.i64.wrap ((k : Int) + 1) = (k : Int) + 1 := IntWalk.i64_in _ (by omega); have hwm : (97 : Int) + (byt s k : Int) % 3 = ((letC (byt s k) : Nat) : Int) := by unfold letC; omega
       have hcv := zky wr (letC (byt s k)) (by omega); have hap := let_app HU.out.2 (letC (byt s k)) hlc; have HAP := hid hap; clear hap; have hus : ¬ 9223372036854775807 < u.size + 1 := by have := HU.out.1; omega
       go_wp2_with (fail); go_roundw
       case rel => exact ⟨k + 1, u ++ ⟨#[UInt8.ofNat (letC (byt s k))]⟩, by go_num, rfl, by rw [HAP.out.2, HU.out.1], HAP.out.1, by omega, HB3.out.alloc HB3.out.size _⟩
       case measure => (simp [RowKit.intOf] <;> omega)
     have hor : (¬ (k : Int) < (s.size : Int)) \/ ((k : Int) < (s.size : Int) /\ ¬ (k : Int) < 7) := by omega
     have hku := HU.out.1; have hus : u.size <= 7 := by omega
     by_cases hk0 : u.size = 0
     . have y0 : ¬ (0 : Int) < (u.size : Int) := by omega
       clear hku
       rcases hor with y1 | ⟨y1, y2⟩
       all_goals
        go_wp2_with (fail); go_roundw
        case rel => exact ⟨i + 1, ws, ao6, cap6, by go_num, rfl, by omega, HEND.out⟩
        case measure => (simp [RowKit.intOf] <;> omega)
     have y0 : (0 : Int) < (u.size : Int) := by omega
     clear hku
     rcases hor with y1 | ⟨y1, y2⟩
     all_goals
      go_wp2_with (first | (at_builtin; refine zan _ rfl _ _ rfl elemStr _ _ _ rfl (by exact zgF HEND.out.row ((Below.refl _ _).alloc (Nat.le_refl _) _) (fun g hg => (zcQ HEND.out.row g hg).2)) ⟨wr.heap.size, 0, none⟩ 1 1 [.string u] rfl rfl (zaD _ #[.string u] _ _ rfl) (by simp [Value.oneCell']) (by decide) (by omega) (by decide) ?_; intro v4 w4 hrow4 hgr4 hbl4; obtain ⟨g4, cap4, rfl⟩ := zbl hrow4; have H4 := hid (And.intro hrow4 (And.intro hgr4 hbl4)); clear hrow4 hgr4 hbl4)); go_roundw
      case rel => exact ⟨i + 1, ws ++ [u], some ⟨g4, 0, none⟩, cap4, by go_num, by simp, by omega, HEND.out.app (by omega) HU.out.2 ⟨by omega, hus⟩ H4.out.1 H4.out.2.1 H4.out.2.2⟩
      case measure => (simp [RowKit.intOf] <;> omega)
  have hor : (¬ (i : Int) < (n : Int)) \/ ((i : Int) < (n : Int) /\ ¬ (ws.length : Int) < 8) := by omega
  have hbw := zaF H1.out.2 HST.out.below H1.out.2.size; have HBW := hid hbw; clear hbw; by_cases h0 : ws.length = 0
  . have z1 : ¬ (i : Int) < (n : Int) := by omega
    clear hor; have e1 : (ws.length : Int) = 0 := by omega
    go_wp2_with (fail); go_ret; exact ⟨rfl, HBW.out⟩
  have e1 : ¬ (ws.length : Int) = 0 := by omega
  by_cases ht : 2000 < t.size
  . have e2 : (2000 : Int) < (t.size : Int) := by omega
    rcases hor with z1 | ⟨z1, z2⟩
    all_goals
     go_wp2_with (fail); go_ret; exact ⟨rfl, HBW.out⟩
  have e2 : ¬ (2000 : Int) < (t.size : Int) := by omega
  have hw : Wds ws := ⟨by omega, HST.out.len, HST.out.sz, HST.out.lt⟩; obtain ⟨T, f, trees, s2, L, rule, goes, fb, best2, b2, hC, hW, hTok⟩ := zkQ hw; obtain ⟨g6, rfl⟩ := zhL HST.out.row (by omega); have hg1 := HG.out.later HBW.out; have hcomp := zey ws T hC wr g6 cap6 HST.out.row hg1.tabs hg1.wid hg1.size; have HC := hid hcomp; have HTK := hid (And.intro hW hTok); have HW := hid hw; have HG1 := hid hg1; have HT := hid ht; clear hC hW hTok hw hcomp hg1 ht
  rcases hor with z1 | ⟨z1, z2⟩
  all_goals
   go_wp2_with (first | (have H0 := HC.out; clear HC; go_at_call 24; refine H0.mono ?_; clear H0; rintro e w4 ho; obtain ⟨ub, rfl, ho2⟩ := cmp_of ho (Below.refl _ wr); have H4 := hid ho2; clear ho ho2)); have hb4 := zaF HBW.out H4.out.2 HBW.out.size; have HB4 := hid hb4; clear hb4; go_loopw [12, 13] (fun s12 s13 wr => ∃ (k : Nat) (u : ByteArray), s13 = .int .i64 k /\ s12 = .string u /\ u.size = k /\ letB u /\ k <= t.size /\ Below w4.heap.size w4 wr) (fun _ s13 _ => t.size - (RowKit.intOf s13).toNat)
   case atStart => exact ⟨0, ⟨#[]⟩, rfl, rfl, rfl, fun p hp => absurd hp (Nat.not_lt_zero _), Nat.zero_le _, Below.refl _ _⟩
   case round =>
    obtain ⟨k, u, rfl, rfl, huk, hul, hkt, hb5⟩ := hrel; have HU := hid (And.intro huk hul); have HB5 := hid hb5; clear hb5 huk hul; by_cases hg2 : k < t.size
    . have y1 : (k : Int) < (t.size : Int) := by omega
      have hgb := zdE t k hg2; have hbl := zbR t k; have hlc := letC_lt (byt t k); have hwk : IntKind.i64.wrap ((k : Int) + 1) = (k : Int) + 1 := IntWalk.i64_in _ (by have := HT.out; omega); have hwm : (97 : Int) + (byt t k : Int) % 3 = ((letC (byt t k) : Nat) : Int) := by unfold letC; omega
      have hcv := zky wr (letC (byt t k)) (by omega); have hap := let_app HU.out.2 (letC (byt t k)) hlc; have HAP := hid hap; clear hap; have hus : ¬ 9223372036854775807 < u.size + 1 := by have := HU.out.1; have := HT.out; omega
      go_wp2_with (fail); go_roundw
      case rel => exact ⟨k + 1, u ++ ⟨#[UInt8.ofNat (letC (byt t k))]⟩, by go_num, rfl, by rw [HAP.out.2, HU.out.1], HAP.out.1, by omega, HB5.out.alloc HB5.out.size _⟩
      case measure => (simp [RowKit.intOf] <;> omega)
    have y1 : ¬ (k : Int) < (t.size : Int) := by omega
    have hb5 := zaF HB4.out HB5.out HB4.out.size; have hg5 := HG.out.later hb5; have hx2 : u.size <= 2000 := by have := HU.out.1; have := HT.out; omega
    have htk := zkM HTK.out.1 u hx2 wr hg5 (H4.out.1.later HB5.out); have hwh := zgj HTK.out.1 (C := 5000) 3000 u 0 1 1 (by omega) (by omega) (Int.le_refl _) (Int.le_refl _); have hit := ziF (T := T) (C := 5000) 3000 u 0 1 1; have hct := zgN (T := T) (C := 5000) (e := 13) 3000 u 0 1 1; unfold ToksO at htk; generalize (za0 T 5000 13 3000 u 0 1 1).1 = l at htk hwh hit hct; have HTOK := hid htk; have HCT := hid hct; have HWH := hid (And.intro hwh hit); have HX := hid (And.intro HU.out.2 hx2); have HBR := hid hb5
    clear htk hwh hg5 hit hx2 hb5 hct; go_wp2_with (first | (have H0 := HTOK.out; clear HTOK; go_at_call 13; refine H0.mono ?_; clear H0; rintro e w6 ⟨ao6, cap7, rfl, hrow, hb6⟩; have H6 := hid (And.intro hrow hb6); clear hrow hb6)); have hrw6 := zgF HST.out.row (zaF H4.out.2 (zaF HB5.out H6.out.2 HB5.out.size) H4.out.2.size) (fun g hg => (zcQ HST.out.row g hg).2); have lg6 := (zcQ hrw6 g6 rfl).2; have HRW := hid hrw6; clear hrw6
    go_loopw [16, 17] (fun s16 s17 wr => ∃ j : Nat, s17 = .int .i64 j /\ s16 = .int .i64 (atN l j : Nat) /\ j <= l.length /\ Below w6.heap.size w6 wr) (fun _ s17 _ => l.length - (RowKit.intOf s17).toNat)
    case atStart => exact ⟨0, rfl, by rw [zfZ]; rfl, Nat.zero_le _, Below.refl _ _⟩
    case round =>
     obtain ⟨j, rfl, rfl, hj, hb7⟩ := hrel; by_cases hlt : j < l.length
     . have z3 : (j : Int) < (l.length : Int) := by omega
       obtain ⟨tk, htk⟩ : ∃ tk, l[j]? = some tk := ⟨_, zLe hlt⟩; obtain ⟨f1, _, f3, f4, _⟩ := HWH.out.1.tok j tk htk; have f0 := HWH.out.2 j tk htk; have HS := hid (atN_succ htk); obtain ⟨g8, rfl⟩ := zhL H6.out.1 (by omega); have gl := (zcQ H6.out.1 g8 rfl).2; obtain ⟨q0, _, _, _, q4⟩ := zjL l j tk htk; have r0 := zd6 H6.out.1 _ _ q0; have r4 := zd6 H6.out.1 _ _ q4; clear q0 q4; generalize atN l j = p at f0 f3 f4 HS ⊢; have hz : (u.extract p u.size).size = u.size - p := by simp
       have htw : TokW ws (u.extract p u.size) tk.rule tk.text.size := by
        obtain ⟨rul, len, g1, g2⟩ := HTK.out.2 (u.extract p u.size) 5000 (fun q hq => by
         rw [zgy u p u.size q (Nat.le_refl _) (by omega)]; exact HX.out.1 _ (by omega)) (by omega) (by have := HX.out.2; omega)
        rw [f0] at g1; cases g1; exact g2
       have hge := htw; generalize tk.rule = rl at htw r0; generalize tk.text = tx at htw r4 f1 f3 f4 HS; clear hge; have HTW := hid htw; have HF := hid f4; have HB7 := hid hb7; have hp2 : p <= 2000 := by have := HX.out.2; omega
       have hu2 := HX.out.2; have hw8 := HST.out.len; obtain ⟨w7, hw7⟩ : ∃ w7, w7 = wr := ⟨_, rfl⟩; rw [<- hw7] at HB7 ⊢; clear hw7 f4 htw f0 hz htk hb7; go_wp2_with (fail); go_loopw [18, 19] (fun s18 s19 wr => ∃ (k : Nat) (best : Int), s19 = .int .i64 k /\ s18 = .int .i64 best /\ k <= ws.length /\ -1 <= best /\ zex ws u p k best /\ Below w6.heap.size w6 wr) (fun _ s19 _ => ws.length - (RowKit.intOf s19).toNat)
       case atStart => exact ⟨0, -1, rfl, rfl, Nat.zero_le _, Int.le_refl _, zex.zero ws u p, HB7.out⟩
       case round =>
        obtain ⟨k, best, rfl, rfl, hk, hb1, hbl, hb8⟩ := hrel; have HBL := hid hbl; have HB8 := hid hb8; by_cases hkl : k < ws.length
        . have z4 : (k : Int) < (ws.length : Int) := by omega
          obtain ⟨wk, hwk⟩ : ∃ wk, ws[k]? = some wk := ⟨_, zLe hkl⟩; have hwz := HW.out.sz wk (List.mem_of_getElem? hwk); have ck := (zai hb8 ⟨g6, k, none⟩ lg6).trans (zax HRW.out k (.string wk) (by rw [List.getElem?_map, hwk]; rfl)); have lg8 : g6 < wr.heap.size := zLd lg6 hb8.size; have hwp : IntKind.i64.wrap ((p : Int) + (wk.size : Int)) = (p : Int) + (wk.size : Int) := IntWalk.i64_in _ (by omega); have hwj : IntKind.i64.wrap ((k : Int) + 1) = (k : Int) + 1 := IntWalk.i64_in _ (by omega); have HWK := hid hwk; clear hbl hb8 hwk
          have lo : ∀ (i0 : Nat) (v : ByteArray), ws[i0]? = some v -> wr.cell? ⟨g6, i0, none⟩ = some (.string v) := fun i0 v hv => (zai HB8.out ⟨g6, i0, none⟩ lg6).trans (zax HRW.out i0 (.string v) (by rw [List.getElem?_map, hv]; rfl)); have LO := hid lo; clear lo; by_cases hA : p + wk.size <= u.size
          . have y1 : decide ((p : Int) + (wk.size : Int) <= (u.size : Int)) = true := by simp; omega
            have y4 : (p : Int) + (wk.size : Int) <= (u.size : Int) := by omega
            have y5 : ¬ (u.size : Int) < (p : Int) + (wk.size : Int) := by omega
            have y6 : (p : Int) <= (p : Int) + (wk.size : Int) := by omega
            by_cases hB : u.extract p (p + wk.size) = wk
            . have hst : StW wk u p := ⟨hA, hB⟩
              have HST2 := hid hst; clear hst; by_cases hC : best < 0
              . have hfin := HBL.out.first hC HWK.out HST2.out
                have HFIN := hid hfin; clear hfin; have y3 : decide (best < 0) = true := by simp; omega
                go_wp2_with (fail); go_quiet (fail); go_wp2_with (fail); go_roundw
                case rel => exact ⟨k + 1, (k : Int), by go_num, rfl, by omega, by omega, HFIN.out, zaH HB8.out _⟩
                case measure => (simp [RowKit.intOf] <;> omega)
              obtain ⟨i0, v, rfl, hi0, hv, hsv, hgt, hle⟩ := HBL.out.get hC
              have cv := LO.out i0 v hv; have y3 : decide ((i0 : Int) < 0) = false := by simp
              have z5 : (i0 : Int) < (ws.length : Int) := by omega
              by_cases hD : v.size < wk.size
              . have hfin := hgt wk HWK.out HST2.out hD
                have HFIN := hid hfin; have y8 : decide ((v.size : Int) < (wk.size : Int)) = true := by simp; omega
                have y9 : decide (v.size < wk.size) = true := by simp; omega
                clear hfin hgt hle hv hsv; go_wp2_with (fail); go_quiet (fail); go_wp2_with (fail); go_roundw
                case rel => exact ⟨k + 1, (k : Int), by go_num, rfl, by omega, by omega, HFIN.out, zaH HB8.out _⟩
                case measure => (simp [RowKit.intOf] <;> omega)
              have hfin := hle wk HWK.out hD
              have HFIN := hid hfin; have y8 : decide ((v.size : Int) < (wk.size : Int)) = false := by simp; omega
              have y9 : decide (v.size < wk.size) = false := by simp; omega
              clear hfin hgt hle hv hsv; go_wp2_with (fail); go_quiet (fail); go_wp2_with (fail); go_roundw
              case rel => exact ⟨k + 1, (i0 : Int), by go_num, rfl, by omega, by omega, HFIN.out, zaH HB8.out _⟩
              case measure => (simp [RowKit.intOf] <;> omega)
            have hfin := HBL.out.skip HWK.out (fun h => hB h.2)
            have HFIN := hid hfin; have y2 : ((u.extract p (p + wk.size)).toList == wk.toList) = false := by
             cases he : ((u.extract p (p + wk.size)).toList == wk.toList) with
             | false => rfl
             | true =>
              have h9 := eq_of_beq he; rw [ByteArray.toList_eq, ByteArray.toList_eq] at h9; refine absurd ?_ hB; have h8 := Array.ext' h9; generalize u.extract p (p + wk.size) = A at h8 ⊢; cases A; cases wk; congr
            clear hfin; go_wp2_with (fail); go_quiet (fail); go_wp2_with (fail); go_roundw
            case rel => exact ⟨k + 1, best, by go_num, rfl, by omega, by omega, HFIN.out, zaH HB8.out _⟩
            case measure => (simp [RowKit.intOf] <;> omega)
          have hfin := HBL.out.skip HWK.out (fun h => hA h.1)
          have HFIN := hid hfin; have y1 : decide ((p : Int) + (wk.size : Int) <= (u.size : Int)) = false := by simp; omega
          clear hfin; go_wp2_with (fail); go_quiet (fail); go_wp2_with (fail); go_roundw
          case rel => exact ⟨k + 1, best, by go_num, rfl, by omega, by omega, HFIN.out, zaH HB8.out _⟩
          case measure => (simp [RowKit.intOf] <;> omega)
        have z4 : ¬ (k : Int) < (ws.length : Int) := by omega
        have hkk : k = ws.length := by omega
        rw [hkk] at hbl; obtain ⟨hbr, hres⟩ := best_tok (by omega) hbl HTW.out; subst hbr; clear hbl hkk; have hwp : IntKind.i64.wrap ((p : Int) + 1) = (p : Int) + 1 := IntWalk.i64_in _ (by omega); have hwt : IntKind.i64.wrap ((p : Int) + (tx.size : Int)) = (p : Int) + (tx.size : Int) := IntWalk.i64_in _ (by omega); have hwj : IntKind.i64.wrap ((j : Int) + 1) = (j : Int) + 1 := IntWalk.i64_in _ (by have := HCT.out; omega); have y1 : (p : Int) + 1 <= (u.size : Int) := by omega
        have y2 : ¬ (u.size : Int) < (p : Int) + 1 := by omega
        have y3 : (p : Int) <= (p : Int) + 1 := by omega
        have r0' := (zai hb8 ⟨g8, j * 5, none⟩ gl).trans r0; have r4' := (zai hb8 ⟨g8, j * 5 + 4, none⟩ gl).trans r4; have lg8 : g8 < wr.heap.size := zLd gl hb8.size; have lg9 : g6 < wr.heap.size := zLd lg6 hb8.size
        rcases hres with ⟨hrl, htx⟩ | ⟨i0, v, hrl, hi0, hv, hvs, hve⟩
        . have hx1 : u.extract p (p + 1) = tx := by rw [<- HF.out, htx]
          have y5 : ¬ 0 <= best := by omega
          clear hrl htx hb8 r0 r4; go_wp2_with (fail); go_roundw
          case rel => exact ⟨j + 1, by go_num, by rw [HS.out]; go_num, by omega, HB8.out⟩
          case measure => (simp [RowKit.intOf] <;> omega)
        obtain rfl : v = tx := by rw [<- hve, HF.out]
        have cv := (zai hb8 ⟨g6, i0, none⟩ lg6).trans (zax HRW.out i0 (.string v) (by rw [List.getElem?_map, hv]; rfl)); subst hrl; have z5 : (i0 : Int) < (ws.length : Int) := by omega
        have y5 : (0 : Int) <= (i0 : Int) := by omega
        clear hb8 r0 r4 hv hve hvs; go_wp2_with (fail); go_roundw
        case rel => exact ⟨j + 1, by go_num, by rw [HS.out]; go_num, by omega, HB8.out⟩
        case measure => (simp [RowKit.intOf] <;> omega)
     have z3 : ¬ (j : Int) < (l.length : Int) := by omega
     obtain rfl : j = l.length := by omega
     rw [HWH.out.1.all]; have HBE := hid (zaF HBR.out (zaF H6.out.2 hb7 H6.out.2.size) HBR.out.size); clear hb7; go_wp2_with (fail); go_ret; exact ⟨rfl, HBE.out⟩
end Go.Proofs.YtghpmhllpaheiaaGreatDoor
