/-
  Part of the proof: So8, So9, So10, TabW, TabX. No condition beyond those in the statements.
-/
import Derived.Laws.Bits64
import Derived.Laws.Bits64b
import Derived.Laws.BitsLemmas
import Derived.Deep.CutBlock
import Derived.Deep.DeepCutAuto
import Derived.Test.YtghpmhllpaheiaaGreatDoorL02
import Derived.Test.YtghpmhllpaheiaaGreatDoorL06
import Derived.Test.YtghpmhllpaheiaaGreatDoorL01
set_option linter.unusedVariables false
set_option linter.unusedSimpArgs false
set_option maxRecDepth 100000
set_option maxHeartbeats 8000000
namespace Go.Proofs.YtghpmhllpaheiaaGreatDoor
section
open Go.RowKit Go.Lib
open Go.Sort (swp ltInt)
def zda (w : World) (b : Nat) (X : Nat) : Prop := w.heap[b]? = some (.cells #[.int .u64 X] 291 (0, 0))
theorem zda.cell {w : World} {b X : Nat} (h : zda w b X) : w.cell? ⟨b, 0, none⟩ = some (.int .u64 X) := by rw [zab w b 0 _ _ _ h]; rfl
theorem zda.set {w : World} {b X : Nat} (h : zda w b X) (Y : Nat) : zda (w.setCell ⟨b, 0, none⟩ (.int .u64 Y)) b Y := by
 unfold zda at h ⊢; rw [zac w b 0 _ _ _ _ h]; rfl
def XO (rb : Nat) (w : World) (e : Ending) (w' : World) : Prop := ∃ Y : Nat, Y < 18446744073709551616 /\ e = .returned (.int .u64 Y) /\ zda w' rb Y /\ w.grownBy w' (some rb)
theorem zjK (rb X : Nat) (hX : X < 18446744073709551616) (w : World) (h : zda w rb X) : Calls Tryz.prog 146 #[.pointer (some ⟨rb, 0, none⟩)] w (XO rb w) := by
 obtain ⟨A, hA⟩ : ∃ A : Nat, A = X ^^^ (X * 8192 % 18446744073709551616) := ⟨_, rfl⟩; obtain ⟨B, hB⟩ : ∃ B : Nat, B = A ^^^ (A / 128) := ⟨_, rfl⟩; obtain ⟨C, hC⟩ : ∃ C : Nat, C = B ^^^ (B * 131072 % 18446744073709551616) := ⟨_, rfl⟩; have lA : A < 18446744073709551616 := by rw [hA]; exact Nat.xor_lt_two_pow (n := 64) (by omega) (by omega)
 have lB : B < 18446744073709551616 := by rw [hB]; exact Nat.xor_lt_two_pow (n := 64) (by omega) (by omega)
 have lC : C < 18446744073709551616 := by rw [hC]; exact Nat.xor_lt_two_pow (n := 64) (by omega) (by omega)
 have e1 : bits .xor .u64 (X : Int) (IntKind.u64.wrap ((X : Int) * 8192)) = (A : Int) := by
  rw [IntKind.wrap_u64, show ((X : Int) * 8192 % 18446744073709551616) = ((X * 8192 % 18446744073709551616 : Nat) : Int) by omega, bits_xor_u64_nat _ _ hX (by omega), hA]
 have e2 : bits .xor .u64 (A : Int) ((A : Int) / 128) = (B : Int) := by
  rw [show ((A : Int) / 128) = ((A / 128 : Nat) : Int) by omega, bits_xor_u64_nat _ _ lA (by omega), hB]
 have e3 : bits .xor .u64 (B : Int) (IntKind.u64.wrap ((B : Int) * 131072)) = (C : Int) := by
  rw [IntKind.wrap_u64, show ((B : Int) * 131072 % 18446744073709551616) = ((B * 131072 % 18446744073709551616 : Nat) : Int) by omega, bits_xor_u64_nat _ _ lB (by omega), hC]
 have LC := hid lC; clear hA hB hC lC; have H := hid h; have H0 := hid (And.intro h (zaZ w (some rb))); clear h; go_enter Tryz.func146, Tryz.ntmps146; go_upto_region 1 with (fail)
 have hl := zaa H0.out.1; have hc := H0.out.1.cell; have hf := zae _ rb 0 _ _ H0.out.1; go_cut [] (fun wx => zda wx rb A /\ w.grownBy wx (some rb))
 case first =>
  go_region
  all_goals (go_wp2_with (fail); go_meet)
  case rel => exact ⟨zda.set (w := World.drewN _ _) H0.out.1 A, zad (zal H0.out.2 _) (zce _ _ _ _)⟩
 case rest =>
  have H1 := hid hcut; clear hcut hl hc hf; go_upto_region 2 with (fail)
  have hl := zaa H1.out.1; have hc := H1.out.1.cell; have hf := zae _ rb 0 _ _ H1.out.1; go_cut [] (fun wx => zda wx rb B /\ w.grownBy wx (some rb))
  case first =>
   go_region
   all_goals (go_wp2_with (fail); go_meet)
   case rel => exact ⟨zda.set (w := World.drewN _ _) H1.out.1 B, zad (zal H1.out.2 _) (zce _ _ _ _)⟩
  case rest =>
   have H2 := hid hcut; clear hcut hl hc hf; go_upto_region 3 with (fail)
   have hl := zaa H2.out.1; have hc := H2.out.1.cell; have hf := zae _ rb 0 _ _ H2.out.1; go_cut [] (fun wx => zda wx rb C /\ w.grownBy wx (some rb))
   case first =>
    go_region
    all_goals (go_wp2_with (fail); go_meet)
    case rel => exact ⟨zda.set (w := World.drewN _ _) H2.out.1 C, zad (zal H2.out.2 _) (zce _ _ _ _)⟩
   case rest =>
    have H3 := hid hcut; clear hcut hl hc hf; have hl := zaa H3.out.1; have hc := H3.out.1.cell; have hf := zae _ rb 0 _ _ H3.out.1; go_wp2; go_ret; exact ⟨C, LC.out, rfl, H3.out.1, H3.out.2⟩
def PowO (n : Nat) (w : World) (e : Ending) (w' : World) : Prop := ∃ M : Nat, 1 <= M /\ M <= 2 * n /\ e = .returned (.int .u64 M) /\ w = w'
theorem zkG (x : Nat) (h0 : 0 < x) (h : x < 2 ^ 64) : 2 ^ Lib.bitLen x <= 2 * x := by
 induction x using Nat.strongRecOn with
 | _ x ih =>
  rw [Lib.bitLen_half x (by omega) h, Nat.add_comm, Nat.pow_succ]; by_cases h2 : 2 <= x
  . have := ih (x / 2) (by omega) (by omega) (by omega)
    omega
  obtain rfl : x = 1 := by omega
  decide
theorem ziN (n : Nat) (h0 : 0 < n) (h : n < 1000000000) : ∃ k : Nat, Lib.bitLen n = k /\ k <= 62 /\ 1 <= 2 ^ k /\ 2 ^ k <= 2 * n := by
 have hp := zkG n h0 (by omega); refine ⟨Lib.bitLen n, rfl, ?_, Nat.one_le_two_pow, hp⟩
 rcases Nat.lt_or_ge 62 (Lib.bitLen n) with h1 | h1
 . have : 2 ^ 62 <= 2 ^ Lib.bitLen n := Nat.pow_le_pow_right (by decide) (by omega)
   omega
 exact h1
theorem wrap_pow (k : Nat) (hk : k <= 62) : IntKind.u64.wrap ((2 : Int) ^ k) = ((2 ^ k : Nat) : Int) := by
 have h : (2 : Nat) ^ k <= 2 ^ 62 := Nat.pow_le_pow_right (by decide) hk; rw [IntKind.wrap_u64, show ((2 : Int) ^ k) = ((2 ^ k : Nat) : Int) by push_cast; rfl]; generalize (2 : Nat) ^ k = p at h; omega
theorem zgr (n : Nat) (h0 : 0 < n) (h : n < 1000000000) (w : World) : Calls Tryz.prog 145 #[.int .i64 n] w (PowO n w) := by
 obtain ⟨k, hk, hk62, h1, h2⟩ := ziN n h0 h; have hLen : ∀ w, Calls Tryz.prog 101 #[.int .u64 (n : Int)] w fun e w' => e = .returned (.int .i64 (k : Nat)) /\ w = w' := fun w => by
  have h := Tryz.bits_Len (n : Int) w (by omega) (by omega); rw [Int.toNat_natCast, hk] at h; exact h.mono fun _ _ h => ⟨h.1, h.2.symm⟩
 have hp := wrap_pow k hk62; obtain ⟨M, hM⟩ : ∃ M, M = 2 ^ k := ⟨_, rfl⟩; rw [<- hM] at hp h1 h2; clear hM; have hk0 : (0 : Int) <= (k : Int) := by omega
 have hk1 : (k : Int) <= 62 := by omega
 go_enter Tryz.func145, Tryz.ntmps145; go_wp2_with (first | (go_at_call 101; refine (hLen _).mono ?_; rintro e w' ⟨rfl, rfl⟩)); go_ret; exact ⟨M, h1, h2, rfl, rfl⟩
theorem zjB {w w1 w2 : World} {b g : Nat} (h : w.grownBy w1 (some b)) (k : w1.grownBy w2 (some g)) (hg : w.heap.size <= g) : w.grownBy w2 (some b) :=
 ⟨k.os.trans h.os, k.tape.trans h.tape, k.output.trans h.output, Nat.le_trans h.size k.size, fun i hi hr => (k.block i (zLd hi h.size) (fun e => by cases e; omega)).trans (h.block i hi hr)⟩
theorem SoR.fresh {b n : Nat} {r : List Value} {w w1 w2 : World} {d : Array Int} {g : Nat} (h : SoR b n r w d w1) (k : w1.grownBy w2 (some g)) (hg : w.heap.size <= g) (hb : b < w.heap.size) : SoR b n r w d w2 :=
 ⟨h.1, h.2.1.grown k (by omega), zjB h.2.2 k hg⟩
theorem zda.grown {w w' : World} {b g X : Nat} (h : zda w b X) (hg : w.grownBy w' (some g)) (hne : b ≠ g) : zda w' b X :=
 (hg.block b (zaa h) (fun e => hne (by cases e; rfl))).trans h
theorem zfp (blk n cap a b : Nat) (r : List Value) (d : Array Int) (w : World) (hR : za9 w blk d r) (hn : d.size = n) (hab : a + 8 <= b) (hb : b <= n) (hsz : n < 1000000000) :
 Calls Tryz.prog 117 #[.slice (some ⟨blk, 0, none⟩) n cap, .int .i64 a, .int .i64 b] w fun e w' => e = .returned (.tuple #[]) /\ ∃ d', Sort.PermIn a b d d' /\ SoR blk n r w d' w' := by
 have HR := hid hR; have HN := hid hn; have hlt := hR.lt; obtain ⟨l, hl⟩ : ∃ l, l = b - a := ⟨_, rfl⟩; obtain ⟨q, hq⟩ : ∃ q, q = l / 4 := ⟨_, rfl⟩; have hw0 : IntKind.i64.wrap ((b : Int) - (a : Int)) = (l : Int) := by rw [IntWalk.i64_in _ (by omega)]; omega
 have hw0' : (b : Int) - (a : Int) = (l : Int) := by omega
 have hw1 : (l : Int) / 4 = (q : Int) := by omega
 have hl0 : (0 : Int) <= (l : Int) := by omega
 obtain ⟨i, hi⟩ : ∃ i, i + 1 = a + q * 2 := ⟨a + q * 2 - 1, by omega⟩; have hwi : (a : Int) + (q : Int) * 2 = (i : Int) + 1 := by omega
 have hqn : (q : Int) < 1000000000 := by omega
 have han : (a : Int) < 1000000000 := by omega
 have hin : (i : Int) < 1000000000 := by omega
 have hB0 := (Below.refl w.heap.size w).alloc (Nat.le_refl _) (.cells #[.int .u64 l] 291); have hX0 : zda (w.alloc (.cells #[.int .u64 l] 291)) w.heap.size l := by unfold zda; rw [zap, if_pos rfl]
 have hR0 : SoR blk n r w d (w.alloc (.cells #[.int .u64 l] 291)) := ⟨hn, (hB0.block blk hlt).trans hR, zah hB0 _⟩; have h8 : (8 : Int) <= (l : Int) := by omega
 have hfacts : a < i /\ i + 2 < b /\ 0 < l /\ l < 1000000000 := by omega
 have HL := hid (And.intro hl (And.intro hq hab)); have hne : blk ≠ w.heap.size := by omega
 have hPow := zgr l hfacts.2.2.1 hfacts.2.2.2; clear hR hn hl hq hi; have HX0 := hid hX0; have HR0 := hid hR0; clear hB0 hX0 hR0; go_enter Tryz.func117, Tryz.ntmps117; go_wp2_with (fail); refine (zgr l hfacts.2.2.1 hfacts.2.2.2 _).mono ?_; rintro e w0 ⟨M, hM1, hM2, rfl, rfl⟩; obtain ⟨M1, hMM⟩ : ∃ M1, M1 + 1 = M := ⟨M - 1, by omega⟩; have hwM : IntKind.u64.wrap ((M : Int) - 1) = (M1 : Int) := by rw [IntKind.wrap_u64]; omega
 have hM1l : M1 < 2 * l := by omega
 clear hMM hM1 hM2 hPow; go_wp2_with (fail); go_loopw [9, 10] (fun s9 _ wr => ∃ (j X : Nat) (dk : Array Int), s9 = .int .i64 j /\ i <= j /\ j <= i + 3 /\ X < 18446744073709551616 /\ zda wr w.heap.size X /\ SoR blk n r w dk wr /\ Sort.PermIn a b d dk) (fun s9 _ _ => i + 3 - (RowKit.intOf s9).toNat)
 case atStart => exact ⟨i, l, d, by first | rfl | (congr 1; omega), Nat.le_refl _, by omega, by omega, HX0.out, HR0.out, Go.Sort.permIn_refl _ _ _⟩
 case round =>
  obtain ⟨j, X, dk, rfl, hj1, hj2, hX, hU, hS, hP⟩ := hrel; have HU := hid hU; have HS := hid hS; have HP := hid hP; clear hU hS hP; by_cases hj : j <= i + 2; rotate_left
  . have hz : ¬ (j : Int) <= (i : Int) + 1 + 1 := by omega
    go_wp2_with (fail); go_end0; exact ⟨rfl, dk, HP.out, HS.out⟩
  have hz : (j : Int) <= (i : Int) + 1 + 1 := by omega
  go_wp2_with (fail); refine (zjK w.heap.size X hX _ HU.out).mono ?_; rintro e w1 ⟨Y, hY, rfl, hU1, hg1⟩; have HU1 := hid hU1; have HS1 := hid (HS.out.fresh hg1 (Nat.le_refl _) hlt); clear hU1 hg1; obtain ⟨o, ho⟩ : ∃ o, o = Y &&& M1 := ⟨_, rfl⟩; have hbits : bits .and .u64 (Y : Int) (M1 : Int) = (o : Int) := by rw [ho]; exact bits_and_u64_nat Y M1 hY (by omega)
  have hoM : o <= M1 := by rw [ho]; exact Nat.and_le_right
  have hol : (o : Int) < 2000000000 := by omega
  have hwo : IntKind.i64.wrap (o : Int) = (o : Int) := IntWalk.i64_in _ (by omega); have hwol : IntKind.i64.wrap ((o : Int) - (l : Int)) = (o : Int) - (l : Int) := by have := hfacts; exact IntWalk.i64_in _ (by omega)
  have HAN := hid (And.intro han (And.intro hin hqn)); clear ho; go_upto_if 43 with (fail)
  clear hol han hin hqn; go_cut [10] (fun s wx => ∃ o2 : Nat, s = .int .i64 o2 /\ o2 < l /\ wx = w1)
  case first =>
   by_cases hge : l <= o
   . have hzd : decide ((l : Int) <= (o : Int)) = true := by simp; omega
     have hzo : (l : Int) <= (o : Int) := by omega
     go_wp2_with (fail); go_meet
     case rel => exact ⟨o - l, by congr 1; omega, by omega, rfl⟩
   . have hzd : decide ((l : Int) <= (o : Int)) = false := by simp; omega
     have hzo : ¬ (l : Int) <= (o : Int) := by omega
     go_wp2_with (fail); go_meet
     case rel => exact ⟨o, rfl, by omega, rfl⟩
  case rest =>
   obtain ⟨o2, rfl, ho2, rfl⟩ := hcut; obtain ⟨f, hf⟩ : ∃ f, f = a + o2 := ⟨_, rfl⟩; have hw2 : IntKind.i64.wrap ((a : Int) + (o2 : Int)) = (f : Int) := by rw [IntWalk.i64_in _ (by omega)]; omega
   have hfn : (f : Int) < (n : Int) := by have := HL.out; omega
   have hjn : (j : Int) < (n : Int) := by have := HL.out; omega
   have hfb : a <= f /\ f < b := by have := HL.out; omega
   clear hf; have c0 := HS1.out.2.1.cell j (by have := HS1.out.1; omega); have c1 := HS1.out.2.1.cell f (by have := HS1.out.1; omega); have hf0 := HS1.out.2.1.free j; have hf1 := HS1.out.2.1.free f; have hin := HAN.out.2.1; have hlj := HS1.out.2.1.lt; by_cases heq : j = f
   . subst heq
     go_wp2_with (fail)
     go_region
     all_goals go_wp2_with (fail)
     all_goals go_roundw
     case rel =>
      have hsw := (HS1.out.drewN 1).swap j j (by omega) (by omega); refine ⟨j + 1, Y, swp dk j j, by go_num, by omega, by omega, hY, zda.grown (w := World.drewN _ _) HU1.out (zbD _ _ _ _ _ _) (by omega), HS1.out.drewN _ |>.swap j j (by omega) (by omega), ?_⟩; exact Go.Sort.permIn_trans _ _ _ _ _ HP.out (Go.Sort.swp_permIn dk a b j j hfb.1 hfb.2 hfb.1 hfb.2 (by have := HS1.out.1; omega))
     case measure => (simp [RowKit.intOf] <;> omega)
   have hne2 : ¬ f = j := fun e => heq e.symm
   go_wp2_with (fail)
   go_region
   all_goals go_wp2_with (fail)
   all_goals go_roundw
   case rel =>
    refine ⟨j + 1, Y, swp dk j f, by go_num, by omega, by omega, hY, zda.grown (w := World.drewN _ _) HU1.out (zbD _ _ _ _ _ _) (by omega), HS1.out.drewN _ |>.swap j f (by omega) (by omega), ?_⟩; exact Go.Sort.permIn_trans _ _ _ _ _ HP.out (Go.Sort.swp_permIn dk a b j f (by omega) (by omega) hfb.1 hfb.2 (by have := HS1.out.1; omega))
   case measure => (simp [RowKit.intOf] <;> omega)
end
section
open Go.RowKit
open Go.Sort (swp ltInt)
def Gd (a b ak bk : Nat) (d dk : Array Int) : Prop := ∀ R, Sort.PermIn ak bk dk R -> Sort.SortedIn ltInt ak bk R -> Sort.PermIn a b d R /\ Sort.SortedIn ltInt a b R
def SO (blk n : Nat) (r : List Value) (a b : Nat) (d : Array Int) (w : World) (e : Ending) (w' : World) : Prop :=
 e = .returned (.tuple #[]) /\ ∃ d', Sort.PermIn a b d d' /\ Sort.SortedIn ltInt a b d' /\ SoR blk n r w d' w'
def PdqC (m : Nat) : Prop := ∀ (blk n cap a b limit : Nat) (r : List Value) (d : Array Int) (w : World), b - a < m -> za9 w blk d r -> d.size = n -> a <= b -> b <= n -> n < 1000000 -> limit <= 1000 -> Sort.Below ltInt a b d ->
 Calls Tryz.prog 100 #[.slice (some ⟨blk, 0, none⟩) n cap, .int .i64 a, .int .i64 b, .int .i64 limit] w (SO blk n r a b d w)
theorem swoI : Sort.SWO ltInt := Sort.swo_ltInt
theorem Gd.perm {a b ak bk : Nat} {d dk dl : Array Int} (h : Gd a b ak bk d dk) (hp : Sort.PermIn ak bk dk dl) : Gd a b ak bk d dl := fun R hR hS => h R (Sort.permIn_trans _ _ _ _ _ hp hR) hS
theorem pdq_any (m : Nat) (ih : PdqC m) : PdqC (m + 1) := by
 intro blk n cap a b limit r d w hm hR hn hab hb hsz hlim hBel; have IH := Lib.hid ih; have HS0 := Lib.hid (SoR.refl (w := w) hR hn); have HSZ := Lib.hid hsz; have HM := Lib.hid hm; have HBL := Lib.hid hBel; have hsz9 : n < 1000000000 := by omega
 have HSZ9 := Lib.hid hsz9; clear hR hn ih hsz hm hBel hsz9; go_enter Tryz.func100, Tryz.ntmps100; go_wp2; go_loopw [1, 2, 3, 8, 9] (fun s1 s2 s3 s8 s9 wr => ∃ (ak bk lk : Nat) (wb wp : Bool) (dk : Array Int), s1 = .int .i64 ak /\ s2 = .int .i64 bk /\ s3 = .int .i64 lk /\ s8 = .bool wb /\ s9 = .bool wp /\ a <= ak /\ ak <= bk /\ bk <= b /\ lk <= 1000 /\
  Sort.Below ltInt ak bk dk /\ Gd a b ak bk d dk /\ SoR blk n r w dk wr) (fun s1 s2 _ _ _ _ => (RowKit.intOf s2 - RowKit.intOf s1).toNat)
 case atStart => exact ⟨a, b, limit, true, true, d, rfl, rfl, rfl, rfl, rfl, Nat.le_refl _, hab, Nat.le_refl _, hlim, HBL.out, fun R h1 h2 => ⟨h1, h2⟩, HS0.out⟩
 case round =>
  obtain ⟨ak, bk, lk, wb, wp, dk, rfl, rfl, rfl, rfl, rfl, hak, habk, hbk, hlk, hBk, hGk, hSk⟩ := hrel; have HB := Lib.hid hBk; have HG := Lib.hid hGk; have HS := Lib.hid hSk; obtain ⟨l, hl⟩ : ∃ l, l = bk - ak := ⟨_, rfl⟩; have hw0 : IntKind.i64.wrap ((bk : Int) - (ak : Int)) = (l : Int) := by have := HSZ.out; rw [IntWalk.i64_in _ (by omega)]; omega
  have hw64 : wrap64 ((bk : Int) - (ak : Int)) = (l : Int) := by have := HSZ.out; unfold wrap64; omega
  have HL := Lib.hid hl; have HAB := Lib.hid hbk; have hbn : bk <= n := by omega
  clear hBk hGk hSk hl; by_cases h12 : l <= 12
  . have hz : (l : Int) <= 12 := by omega
    go_wp2_with (fail); refine (zhQ blk n cap ak bk r dk _ HS.out.2.1 HS.out.1 habk hbn HSZ9.out).mono ?_; rintro e w1 ⟨rfl, hS1⟩; go_wp2_with (fail); refine bodyPost_ret (v := .tuple #[]) (by simp [results, Tryz.results100, go_sem]) rfl ?_; obtain ⟨q1, q2⟩ := Sort.insertionSort_holds swoI dk ak bk habk (by rw [HS.out.1]; exact hbn); obtain ⟨p1, p2⟩ := HG.out _ q1 q2; exact ⟨rfl, _, p1, p2, HS.out.trans hS1⟩
  have hz : ¬ (l : Int) <= 12 := by omega
  have hab13 : ak + 13 <= bk := by have := HL.out; omega
  by_cases hl0 : lk = 0
  . have hz2 : ((lk : Int) == 0) = true := by simp [hl0]
    clear hl0; go_wp2_with (fail); refine (ziS blk n cap ak bk r dk _ HS.out.2.1 HS.out.1 (by omega) hbn HSZ9.out).mono ?_; rintro e w1 ⟨rfl, hS1⟩; go_wp2_with (fail); refine bodyPost_ret (v := .tuple #[]) (by simp [results, Tryz.results100, go_sem]) rfl ?_; obtain ⟨q1, q2⟩ := Sort.heapSort_holds swoI dk ak bk habk (by rw [HS.out.1]; exact hbn); obtain ⟨p1, p2⟩ := HG.out _ q1 q2; exact ⟨rfl, _, p1, p2, HS.out.trans hS1⟩
  have hz2 : ((lk : Int) == 0) = false := by simp [hl0]
  have hlk1 : 1 <= lk := by omega
  go_upto_if 35 with (fail)
  go_cut [3] (fun s3 wx => ∃ (l2 : Nat) (d1 : Array Int), s3 = .int .i64 l2 /\ l2 <= 1000 /\ Sort.PermIn ak bk dk d1 /\ SoR blk n r w d1 wx)
  case first =>
   cases wb with
   | true =>
    go_wp2_with (fail); go_meet
    case rel => exact ⟨lk, dk, rfl, hlk, Sort.permIn_refl _ _ _, HS.out⟩
   | false =>
    go_wp2_with (fail); refine (zfp blk n cap ak bk r dk _ HS.out.2.1 HS.out.1 (by omega) hbn HSZ9.out).mono ?_; rintro e w1 ⟨rfl, d1, hp1, hS1⟩; have HP1 := Lib.hid hp1; have HS1 := Lib.hid hS1; clear hp1 hS1; go_wp2_with (fail); go_meet
    case rel => exact ⟨lk - 1, d1, by congr 1; omega, by omega, HP1.out, HS.out.trans HS1.out⟩
  case rest =>
   obtain ⟨l2, d1, rfl, hl2, hp1, hS1⟩ := hcut; have HG1 := Lib.hid (HG.out.perm hp1); have HB1 := Lib.hid (HB.out.perm (by rw [HS.out.1]; exact hbn) hp1); have HS1 := Lib.hid hS1; clear hp1 hS1 HG HB HS; go_wp2_with (fail); refine (zgL blk n cap ak bk r d1 _ HS1.out.2.1 HS1.out.1 (by omega) hbn HSZ9.out).mono ?_; rintro e w2 ⟨p, hh, rfl, hp1, hp2, hh2, hb2⟩; have HS2 : Hid (SoR blk n r w d1 w2) := Lib.hid (HS1.out.trans ⟨HS1.out.1, (hb2.block _ HS1.out.2.1.lt).trans HS1.out.2.1, zah hb2 _⟩); clear hb2 HS1; go_upto_if 50 with (fail)
   go_cut [11, 12] (fun s11 s12 wx => ∃ (p2 h2 : Nat) (d2 : Array Int), s11 = .int .i64 p2 /\ s12 = .int .i64 h2 /\ ak <= p2 /\ p2 < bk /\ h2 <= 2 /\ Sort.PermIn ak bk d1 d2 /\ SoR blk n r w d2 wx)
   case first =>
    cases hd : ((hh : Int) == 2) with
    | false =>
     go_wp2_with (fail); go_meet
     case rel => exact ⟨p, hh, d1, rfl, rfl, hp1, hp2, hh2, Sort.permIn_refl _ _ _, HS2.out⟩
    | true =>
     go_wp2_with (fail); refine (zjC blk n cap ak bk r d1 _ HS2.out.2.1 HS2.out.1 (by omega) hbn HSZ9.out).mono ?_; rintro e w3 ⟨rfl, d2, hP2, hS3⟩; have HP2 := Lib.hid hP2; have HS3 := Lib.hid (HS2.out.trans hS3); obtain ⟨b1, hb1⟩ : ∃ x, x + 1 = bk := ⟨bk - 1, by omega⟩; obtain ⟨pa, hpa⟩ : ∃ x, x + ak = p := ⟨p - ak, by omega⟩; obtain ⟨p2, hp2'⟩ : ∃ x, x + pa = b1 := ⟨b1 - pa, by omega⟩; have e1 : wrap64 ((bk : Int) - 1) = (b1 : Int) := by have := HSZ.out; unfold wrap64; omega
     have e2 : wrap64 ((p : Int) - (ak : Int)) = (pa : Int) := by have := HSZ.out; unfold wrap64; omega
     have e3 : wrap64 ((b1 : Int) - (pa : Int)) = (p2 : Int) := by have := HSZ.out; unfold wrap64; omega
     have hpp : ak <= p2 /\ p2 < bk := by omega
     clear hP2 hS3 hb1 hpa hp2'; go_wp2_with (fail); go_meet
     case rel => exact ⟨p2, 1, d2, by first | rfl | rw [e3], rfl, hpp.1, hpp.2, by omega, HP2.out, HS3.out⟩
   case rest =>
    obtain ⟨p2, h2, d2, rfl, rfl, hp2a, hp2b, hh2', hP2, hS2⟩ := hcut; have HG2 := Lib.hid (HG1.out.perm hP2); have HB2 := Lib.hid (HB1.out.perm (by rw [HS2.out.1]; exact hbn) hP2); have HS3 := Lib.hid hS2; clear hP2 hS2 HG1 HB1 HS2 hp1 hp2 hh2; go_upto_region 15 with (fail); obtain ⟨wy, hwy⟩ : ∃ x : World, x = wc := ⟨_, rfl⟩; have HWY := Lib.hid hwy; clear hwy; go_cut [68] (fun s wx => ∃ c : Bool, s = .bool c /\ wx = wy)
    case first =>
     cases wb <;> cases wp <;> cases hd : ((h2 : Int) == 1)
     all_goals (go_wp2_with (fail); go_meet; exact ⟨_, rfl, HWY.out.symm⟩)
    case rest =>
     obtain ⟨c, rfl, hwc⟩ := hcut; rw [<- HWY.out, <- hwc] at HS3; clear hwc HWY; go_upto_if 68 with (fail); go_cut [] (fun wx => ∃ d3 : Array Int, Sort.PermIn ak bk d2 d3 /\ SoR blk n r w d3 wx)
     case first =>
      cases c with
      | false =>
       go_wp2_with (fail); go_meet
       case rel => exact ⟨d2, Sort.permIn_refl _ _ _, HS3.out⟩
      | true =>
       go_wp2_with (fail); refine (zel blk n cap ak bk r d2 _ HS3.out.2.1 HS3.out.1 (by omega) hbn HSZ9.out).mono ?_; rintro e w4 ⟨rfl, hS4⟩; have HPI := Lib.hid (Sort.partialInsertionSort_holds swoI d2 ak bk (by omega) (by rw [HS3.out.1]; exact hbn) HB2.out); have HS4 := Lib.hid (HS3.out.trans hS4); clear hS4; cases hpi : (Sort.partialInsertionSort ltInt d2 ak bk).2 with
       | false =>
        go_wp2_with (fail); go_meet
        case rel => exact ⟨_, HPI.out.1, HS4.out⟩
       | true =>
        have HPT := Lib.hid hpi; go_wp2_with (fail); refine bodyPost_ret (v := .tuple #[]) (by simp [results, Tryz.results100, go_sem]) rfl ?_; obtain ⟨p1, p2⟩ := HG2.out _ HPI.out.1 (HPI.out.2 HPT.out); exact ⟨rfl, _, p1, p2, HS4.out⟩
     case rest =>
      obtain ⟨d3, hP3, hS4⟩ := hcut; have HG3 := Lib.hid (HG2.out.perm hP3); have HB3 := Lib.hid (HB2.out.perm (by rw [HS3.out.1]; exact hbn) hP3); have HS4 := Lib.hid hS4; clear hP3 hS4 HG2 HB2 HS3; go_upto_region 17 with (fail); obtain ⟨q, hq⟩ : ∃ q, q = ak - 1 := ⟨_, rfl⟩; have HQ := Lib.hid hq; go_cut [87] (fun s wx => ∃ c : Bool, s = .bool c /\ (c = true -> 0 < ak /\ ltInt d3[ak - 1]! d3[p2]! = false) /\ SoR blk n r w d3 wx)
      case first =>
       by_cases ha0 : 0 < ak
       . have hz : (0 : Int) < (ak : Int) := by omega
         have hzd : decide ((0 : Int) < (ak : Int)) = true := by simpa using hz
         have e1 : IntKind.i64.wrap ((ak : Int) - 1) = (q : Int) := by have := HSZ.out; rw [IntWalk.i64_in _ (by omega)]; omega
         have hqn : (q : Int) < (n : Int) := by omega
         have hpn : (p2 : Int) < (n : Int) := by omega
         have c0 := HS4.out.2.1.cell q (by have := HS4.out.1; omega); have c1 := HS4.out.2.1.cell p2 (by have := HS4.out.1; omega); clear hq; cases hl : ltInt d3[q]! d3[p2]! with
         | true =>
          have HLT := Lib.hid hl; go_quiet ((go_at_call 94; exact Calls.quiet_of_same (zbf _ _ _))); go_wp2_with (fail); go_meet
          case rel => exact ⟨false, rfl, fun h => (by cases h), HS4.out.drewN _⟩
         | false =>
          have HLT := Lib.hid hl; go_quiet ((go_at_call 94; exact Calls.quiet_of_same (zbf _ _ _))); go_wp2_with (fail); go_meet
          case rel => exact ⟨true, rfl, fun _ => ⟨ha0, by rw [<- HQ.out]; exact HLT.out⟩, HS4.out.drewN _⟩
       . have hzd : decide ((0 : Int) < (ak : Int)) = false := by simp; omega
         clear hq; go_quiet (fail); go_wp2_with (fail); go_meet
         case rel => exact ⟨false, rfl, fun h => (by cases h), HS4.out.drewN _⟩
      case rest =>
       clear hq; obtain ⟨c, rfl, hc, hS5⟩ := hcut; have HC := Lib.hid hc; have HS5 := Lib.hid hS5; clear hc hS5 HS4; cases c with
       | true =>
        go_wp2_with (fail); refine (ze6 blk n cap ak bk p2 r d3 _ HS5.out.2.1 HS5.out.1 hp2a hp2b hbn HSZ9.out).mono ?_; rintro e w6 ⟨rfl, hS6⟩; have hx : Sort.partitionEqual ltInt d3 ak bk p2 = ((Sort.partitionEqual ltInt d3 ak bk p2).1, (Sort.partitionEqual ltInt d3 ak bk p2).2) := rfl; obtain ⟨hm1, hm2, hs4, hB4, hfin⟩ := Sort.round_eq swoI (Sort.partitionEqual_holds ltInt) (HC.out (by first | rfl | trivial)).1 hp2a hp2b (by rw [HS5.out.1]; exact hbn) HB3.out (HC.out (by first | rfl | trivial)).2 hx; have HB6 := Lib.hid hB4
        have HG6 : Hid (Gd a b (Sort.partitionEqual ltInt d3 ak bk p2).1 bk d (Sort.partitionEqual ltInt d3 ak bk p2).2) := Lib.hid (fun R h1 h2 => (fun q => HG3.out R q.1 q.2) (hfin R h1 h2)); have HS6 := Lib.hid (HS5.out.trans hS6); clear hx hB4 hfin hS6 hs4; generalize (Sort.partitionEqual ltInt d3 ak bk p2).1 = mid at *; generalize (Sort.partitionEqual ltInt d3 ak bk p2).2 = d6 at *; go_wp2_with (fail); go_roundw
        case rel => exact ⟨mid, bk, l2, wb, wp, d6, rfl, rfl, rfl, rfl, rfl, by omega, hm2, HAB.out, hl2, HB6.out, HG6.out, HS6.out⟩
        case measure => (simp [RowKit.intOf] <;> omega)
       | false =>
        go_wp2_with (fail); refine (zh0 blk n cap ak bk p2 r d3 _ HS5.out.2.1 HS5.out.1 hp2a hp2b hbn HSZ9.out).mono ?_; rintro e w6 ⟨rfl, hS6⟩; have hx : Sort.partition ltInt d3 ak bk p2 = ((Sort.partition ltInt d3 ak bk p2).1, (Sort.partition ltInt d3 ak bk p2).2.1, (Sort.partition ltInt d3 ak bk p2).2.2) := rfl; obtain ⟨g1, g2, hs4, hBa, hBr, hleft, hright⟩ := Sort.round_part swoI (Sort.partition_holds ltInt) hp2a hp2b (by rw [HS5.out.1]; exact hbn) HB3.out hx; have HBa := Lib.hid hBa; have HBr := Lib.hid hBr; have HLe := Lib.hid hleft; have HRi := Lib.hid hright
        have HS6 := Lib.hid (HS5.out.trans hS6); clear hx hBa hBr hleft hright hS6 hs4; generalize (Sort.partition ltInt d3 ak bk p2).1 = mid at *; generalize (Sort.partition ltInt d3 ak bk p2).2.1 = apx at *; generalize (Sort.partition ltInt d3 ak bk p2).2.2 = d6 at *; obtain ⟨ll, hll⟩ : ∃ x, x + ak = mid := ⟨mid - ak, by omega⟩; obtain ⟨rl, hrl⟩ : ∃ x, x + mid = bk := ⟨bk - mid, by omega⟩; have hf : mid - ak < m /\ bk - (mid + 1) < m /\ mid <= n /\ mid + 1 <= bk /\ a <= mid + 1 /\ mid <= b := by have := HM.out; have := HAB.out; omega
        have e1 : wrap64 ((mid : Int) - (ak : Int)) = (ll : Int) := by have := HSZ.out; unfold wrap64; omega
        have e2 : wrap64 ((bk : Int) - (mid : Int)) = (rl : Int) := by have := HSZ.out; unfold wrap64; omega
        have HLL := Lib.hid (And.intro hll hrl); have e5 : wrap64 ((mid : Int) + 1) = ((mid + 1 : Nat) : Int) := by have := HSZ.out; unfold wrap64; omega
        clear hll hrl; by_cases hlr : ll < rl
        . have hz : (ll : Int) < (rl : Int) := by omega
          have hz0 : (0 : Int) <= (l : Int) := by omega
          go_wp2_with (fail); refine (IH.out blk n cap ak mid l2 r d6 _ hf.1 HS6.out.2.1 HS6.out.1 g1 hf.2.2.1 HSZ.out hl2 HBa.out).mono ?_; rintro e w7 ⟨rfl, L, hL1, hL2, hS7⟩; obtain ⟨hBL, hfin⟩ := HLe.out L hL1 hL2; have HBL2 := Lib.hid hBL; have HG7 : Hid (Gd a b (mid + 1) bk d L) := Lib.hid (fun R h1 h2 => (fun q => HG3.out R q.1 q.2) (hfin R h1 h2)); have HS7 := Lib.hid (HS6.out.trans hS7); clear hL1 hL2 hS7 hBL hfin e1 e2; go_wp2_with (fail); go_roundw
          case rel => exact ⟨mid + 1, bk, l2, _, apx, L, by first | rfl | rw [e5], rfl, rfl, rfl, rfl, hf.2.2.2.2.1, hf.2.2.2.1, HAB.out, hl2, HBL2.out, HG7.out, HS7.out⟩
          case measure => (simp only [e5]; clear e5 hw0 hw64 HG7 HS7 HBL2 HLe HRi; simp [RowKit.intOf] <;> omega)
        have hz : ¬ (ll : Int) < (rl : Int) := by omega
        have hz0 : (0 : Int) <= (l : Int) := by omega
        go_wp2_with (fail); rw [e5]; refine (IH.out blk n cap (mid + 1) bk l2 r d6 _ hf.2.1 HS6.out.2.1 HS6.out.1 hf.2.2.2.1 hbn HSZ.out hl2 HBr.out).mono ?_; rintro e w7 ⟨rfl, L, hL1, hL2, hS7⟩; obtain ⟨hBL, hfin⟩ := HRi.out L hL1 hL2; have HBL2 := Lib.hid hBL; have HG7 : Hid (Gd a b ak mid d L) := Lib.hid (fun R h1 h2 => (fun q => HG3.out R q.1 q.2) (hfin R h1 h2)); have HS7 := Lib.hid (HS6.out.trans hS7); clear hL1 hL2 hS7 hBL hfin e1 e2; go_wp2_with (fail); go_roundw
        case rel => exact ⟨ak, mid, l2, _, apx, L, rfl, rfl, rfl, rfl, rfl, hak, g1, hf.2.2.2.2.2, hl2, HBL2.out, HG7.out, HS7.out⟩
        case measure => (clear e5 hw0 hw64 HG7 HS7 HBL2 HLe HRi; simp [RowKit.intOf] <;> omega)
end
section
open Go.RowKit
open Go.Sort (swp ltInt)
theorem pdq_all : ∀ m, PdqC m
 | 0 => fun _ _ _ _ _ _ _ _ _ hm => absurd hm (Nat.not_lt_zero _)
 | m + 1 => pdq_any m (pdq_all m)
theorem sort_any (blk n cap : Nat) (r : List Value) (d : Array Int) (w : World) (hR : za9 w blk d r) (hn : d.size = n) (h0 : 0 < n) (hsz : n < 1000000) :
 Calls Tryz.prog 83 #[.slice (some ⟨blk, 0, none⟩) n cap] w (SO blk n r 0 n d w) := by
 obtain ⟨k, hk, hk62, _, _⟩ := ziN n h0 (by omega); have hLen : ∀ w, Calls Tryz.prog 101 #[.int .u64 (n : Int)] w fun e w' => e = .returned (.int .i64 (k : Nat)) /\ w = w' := fun w => by
  have h := Tryz.bits_Len (n : Int) w (by omega) (by omega); rw [Int.toNat_natCast, hk] at h; exact h.mono fun _ _ h => ⟨h.1, h.2.symm⟩
 have hP := pdq_all (n + 1) blk n cap 0 n k r d w (by omega) hR hn (Nat.zero_le _) (Nat.le_refl _) hsz (by omega) (.inl rfl); have hnz : (n : Int) < 1000000 := by omega
 have HP := Lib.hid hP; clear hR hn hP; go_enter Tryz.func83, Tryz.ntmps83; go_wp2_with (first | (go_at_call 101; refine (hLen _).mono ?_; rintro e w' ⟨rfl, rfl⟩) | fail); refine HP.out.mono ?_; rintro e w1 ⟨rfl, h⟩; have H := Lib.hid h; clear h; go_wp2_with (fail); go_end0; exact ⟨rfl, H.out⟩
def BsO (n : Nat) (d : Array Int) (c : Int) (w : World) (e : Ending) (w' : World) : Prop :=
 ∃ k : Nat, e = .returned (.tuple #[.int .i64 k, .bool (decide (k < n) && decide (d[k]! = c))]) /\ k <= n /\ (∀ i, i < k -> d[i]! < c) /\ (∀ i, k <= i -> i < n -> c <= d[i]!) /\ w = w'
theorem bs_any (blk n cap : Nat) (r : List Value) (d : Array Int) (c : Int) (w : World) (hR : za9 w blk d r) (hn : d.size = n) (hsz : n < 1000000) (hs : ∀ i j, i < j -> j < n -> d[i]! <= d[j]!) :
 Calls Tryz.prog 72 #[.slice (some ⟨blk, 0, none⟩) n cap, .int .i32 c] w (BsO n d c w) := by
 have hnz : (n : Int) < 1000000 := by omega
 have HR := Lib.hid hR; have HN := Lib.hid hn; have HS := Lib.hid hs; have hnan : ∀ (x : Int) (w : World), Calls Tryz.prog 95 #[.int .i32 x] w fun e w' => e = .returned (.bool false) /\ w = w' := by
  intro x w; go_enter Tryz.func95, Tryz.ntmps95; go_wp2; go_ret; exact ⟨rfl, rfl⟩
 clear hR hn hs; go_enter Tryz.func72, Tryz.ntmps72; go_wp2_with (fail)
 go_loop [7, 8] (fun s7 s8 => ∃ i j : Nat, s7 = .int .i64 i /\ s8 = .int .i64 j /\ i <= j /\ j <= n /\ (∀ x, x < i -> d[x]! < c) /\ (∀ x, j <= x -> x < n -> c <= d[x]!)) (fun s7 s8 => (RowKit.intOf s8 - RowKit.intOf s7).toNat)
 case atStart => exact ⟨0, n, rfl, rfl, by omega, by omega, fun x h => absurd h (Nat.not_lt_zero _), fun x h1 h2 => absurd h2 (by omega)⟩
 case round =>
  obtain ⟨i, j, rfl, rfl, hij, hjn, hlo, hhi⟩ := hrel; have HLO := Lib.hid hlo; have HHI := Lib.hid hhi; clear hlo hhi; by_cases hlt : i < j
  . have hz : (i : Int) < (j : Int) := by omega
    obtain ⟨h, hh⟩ : ∃ h, h = (i + j) / 2 := ⟨_, rfl⟩; have hw1 : ((i : Int) + (j : Int)) / 2 = (h : Int) := by omega
    have hjz : (j : Int) <= (n : Int) := by omega
    have hhn : (h : Int) < (n : Int) := by omega
    have hhb : i <= h /\ h < j := by omega
    have c0 := HR.out.cell h (by have := HN.out; omega); clear hh; cases hl : ltInt d[h]! c with
    | true =>
     have hlc : d[h]! < c := by simpa [ltInt] using hl
     have HLC := Lib.hid hlc; clear hlc; go_wp2_with (go_at_call 94; refine (zit _ _ _).mono ?_; rintro e w' ⟨rfl, rfl⟩)
     go_round
     case rel =>
      refine ⟨h + 1, j, by go_num, rfl, by omega, hjn, fun x hx => ?_, HHI.out⟩; by_cases hxh : x = h
      . subst hxh; exact HLC.out
      . have := HS.out x h (by omega) (by omega)
        have := HLC.out; omega
     case measure => (simp [RowKit.intOf] <;> omega)
    | false =>
     have hlc : c <= d[h]! := by simpa [ltInt] using hl
     have HLC := Lib.hid hlc; clear hlc; go_wp2_with (go_at_call 94; refine (zit _ _ _).mono ?_; rintro e w' ⟨rfl, rfl⟩)
     go_round
     case rel =>
      refine ⟨i, h, rfl, rfl, by omega, by omega, HLO.out, fun x h1 h2 => ?_⟩; by_cases hxh : x = h
      . subst hxh; exact HLC.out
      . have := HS.out h x (by omega) h2
        have := HLC.out; omega
     case measure => (simp [RowKit.intOf] <;> omega)
  have hz : ¬ (i : Int) < (j : Int) := by omega
  by_cases hin : i < n
  . have hzn : (i : Int) < (n : Int) := by omega
    have hzd : decide ((i : Int) < (n : Int)) = true := by simpa using hzn
    have c0 := HR.out.cell i (by have := HN.out; omega); cases he : (d[i]! == c) with
    | true =>
     have HE := Lib.hid he; go_wp2_with (go_at_call 95; refine (hnan _ _).mono ?_; rintro e w' ⟨rfl, rfl⟩)
     go_ret2
     exact ⟨i, by have := HE.out; simp at this; simp [hin, this], by omega, HLO.out, fun x h1 h2 => HHI.out x (by omega) h2, rfl⟩
    | false =>
     have HE := Lib.hid he; go_wp2_with (go_at_call 95; refine (hnan _ _).mono ?_; rintro e w' ⟨rfl, rfl⟩)
     go_ret2
     exact ⟨i, by have := HE.out; simp at this; simp [hin, this], by omega, HLO.out, fun x h1 h2 => HHI.out x (by omega) h2, rfl⟩
  have hzn : ¬ (i : Int) < (n : Int) := by omega
  have hzd : decide ((i : Int) < (n : Int)) = false := by simp; omega
  go_wp2_with (go_at_call 95; refine (hnan _ _).mono ?_; rintro e w' ⟨rfl, rfl⟩)
  go_ret2
  exact ⟨i, by simp [hin], by omega, HLO.out, fun x h1 h2 => HHI.out x (by omega) h2, rfl⟩
end
section
open Go.RowKit
structure zbY (B : Nat) (w : World) (bt : Nat) (T : Tab) (bc cc br cr bg cg : Nat) : Prop where
 lt : bt < B
 c0 : w.cell? ⟨bt, 0, none⟩ = some (.slice (some ⟨bc, 0, none⟩) T.cuts.length cc)
 c1 : w.cell? ⟨bt, 1, none⟩ = some (.slice (some ⟨br, 0, none⟩) T.rule.length cr)
 c2 : w.cell? ⟨bt, 2, none⟩ = some (.slice (some ⟨bg, 0, none⟩) T.goes.length cg)
 c3 : w.cell? ⟨bt, 3, none⟩ = some (.int .i64 T.bound)
 cuts : ∃ rc, za9 w bc T.cuts.toArray rc
 ltc : bc < B
 rule : ∀ (i : Nat) (x : Int), T.rule[i]? = some x -> w.cell? ⟨br, i, none⟩ = some (.int .i64 x)
 ltr : br < B
 goes : ∀ (i : Nat) (row : List Int), T.goes[i]? = some row -> ∃ b c, w.cell? ⟨bg, i, none⟩ = some (.slice (some ⟨b, 0, none⟩) row.length c) /\ b < B /\ ∀ (j : Nat) (x : Int), row[j]? = some x -> w.cell? ⟨b, j, none⟩ = some (.int .i64 x)
 ltg : bg < B
 cap0 : T.cuts.length <= cc
 size : T.cuts.length < 1000000 /\ T.goes.length < 1000000
theorem zbY.below {B : Nat} {w w' : World} {bt : Nat} {T : Tab} {bc cc br cr bg cg : Nat} (h : zbY B w bt T bc cc br cr bg cg) (hb : Below B w w') : zbY B w' bt T bc cc br cr bg cg := by
 have hc : ∀ (b o : Nat), b < B -> w'.cell? ⟨b, o, none⟩ = w.cell? ⟨b, o, none⟩ := fun b o hlt => hb.cell (p := ⟨b, o, none⟩) hlt; refine ⟨h.lt, by rw [hc _ _ h.lt]; exact h.c0, by rw [hc _ _ h.lt]; exact h.c1, by rw [hc _ _ h.lt]; exact h.c2, by rw [hc _ _ h.lt]; exact h.c3, ?_, h.ltc, fun i x hx => by rw [hc _ _ h.ltr]; exact h.rule i x hx, h.ltr, fun i row hr => ?_, h.ltg, h.cap0, h.size⟩
 . obtain ⟨rc, hr⟩ := h.cuts
   exact ⟨rc, (hb.block bc h.ltc).trans hr⟩
 obtain ⟨b, c, h1, h2, h3⟩ := h.goes i row hr
 exact ⟨b, c, by rw [hc _ _ h.ltg]; exact h1, h2, fun j x hx => by rw [hc _ _ h2]; exact h3 j x hx⟩
theorem zgl (c : Int) : ∀ (l : List Int), l.Pairwise (· < ·) -> ∀ i, i < l.length -> (i < l.countP (fun x => decide (x <= c)) ↔ l.getD i 0 <= c)
 | [], _, i, hi => by simp at hi
 | y :: l, hp, i, hi => by
  obtain ⟨h1, h2⟩ := List.pairwise_cons.1 hp; have hz : ¬ y <= c -> l.countP (fun x => decide (x <= c)) = 0 := by
   intro hy; rw [List.countP_eq_zero]; intro x hx; have := h1 x hx; simp; omega
  cases i with
  | zero =>
   simp only [List.getD_cons_zero, List.countP_cons]; by_cases hy : y <= c
   . simp [hy]
   . simp [hy, hz hy]
  | succ i =>
   simp only [List.getD_cons_succ, List.countP_cons]; have := zgl c l h2 i (by simpa using hi); by_cases hy : y <= c
   . simp [hy]; rw [<- zLf]; exact this
   have h0 := hz hy
   rw [h0] at this ⊢; have hm : l.getD i 0 ∈ l := by
    rw [zLf, zLe (by simpa using hi)]; simp
   have := h1 _ hm; constructor
   . intro h; simp [hy] at h
   intro h; omega
theorem ze5 (l : List Int) (i : Nat) (h : i < l.length) : l.toArray[i]! = l.getD i 0 := by
 rw [getElem!_pos l.toArray i (by simpa using h), zLf, zLe h]; simp
theorem rise_le {l : List Int} (h : l.Pairwise (· < ·)) : ∀ i j, i < j -> j < l.toArray.size -> l.toArray[i]! <= l.toArray[j]! := by
 intro i j hij hj; have hj' : j < l.length := by simpa using hj
 rw [getElem!_pos l.toArray i (by simp; omega), getElem!_pos l.toArray j hj]; have := List.pairwise_iff_getElem.1 h i j (by omega) hj' hij; simp; omega
theorem cutIdx_bs {l : List Int} {c : Int} {k : Nat} (hr : l.Pairwise (· < ·)) (hh : l.head? = some 0) (hc : 0 <= c) (hk : k <= l.length) (h1 : ∀ i, i < k -> l.toArray[i]! < c) (h2 : ∀ i, k <= i -> i < l.length -> c <= l.toArray[i]!) :
 (k < l.length /\ l.toArray[k]! = c -> zbL l c = k) /\ (¬ (k < l.length /\ l.toArray[k]! = c) -> zbL l c + 1 = k) := by
 have hlen : 0 < l.length := by cases l <;> simp_all
 have h0 : l.getD 0 0 = 0 := by cases l <;> simp_all
 have hle := List.countP_le_length (l := l) (p := fun x => decide (x <= c)); have key := zgl c l hr; have hpos := (key 0 hlen).2 (by omega); unfold zbL; have hge : k <= l.countP (fun x => decide (x <= c)) := by
  rcases Nat.lt_or_ge (l.countP (fun x => decide (x <= c))) k with h | h
  . exfalso
    have a := (key (l.countP (fun x => decide (x <= c))) (by omega)); have b := h1 _ h; rw [ze5 l _ (by omega)] at b; have := a.2 (by omega); omega
  exact h
 constructor
 . rintro ⟨hkl, he⟩
   have a : k < l.countP (fun x => decide (x <= c)) := (key k hkl).2 (by rw [<- ze5 l k hkl]; omega); have b : ¬ k + 1 < l.countP (fun x => decide (x <= c)) := by
    intro h; have hk1 : k + 1 < l.length := by omega
    have := (key (k + 1) hk1).1 h; have hlt := List.pairwise_iff_getElem.1 hr k (k + 1) hkl hk1 (by omega); rw [zLf, zLe hk1] at this; rw [getElem!_pos l.toArray k (by simpa using hkl)] at he; simp at this he; omega
   omega
 intro hn
 have b : ¬ k < l.countP (fun x => decide (x <= c)) := by
  intro h; have hkl : k < l.length := by omega
  have := (key k hkl).1 h; rw [<- ze5 l k hkl] at this; have := h2 k (Nat.le_refl _) hkl; exact hn ⟨hkl, by omega⟩
 omega
theorem zkg (B bt bc cc br cr bg cg set : Nat) (T : Tab) (R : Nat) (c : Int) (w : World) (h : zbY B w bt T bc cc br cr bg cg) (hT : WfT T R) (hset : set < T.goes.length) (hc : 0 <= c) :
 Calls Tryz.prog 65 #[.pointer (some ⟨bt, 0, none⟩), .int .i64 set, .int .i32 c] w fun e w' => e = .returned (.int .i64 (zbQ T set c)) /\ w = w' := by
 obtain ⟨rc, hrow⟩ := h.cuts; have hsz := h.size; have hbs := bs_any bc T.cuts.length cc rc T.cuts.toArray c w hrow (by simp) hsz.1 (fun i j hij hj => rise_le hT.rise i j hij (by simpa using hj)); have hf := zdh hT.rise hT.head hc; obtain ⟨row, hrw⟩ : ∃ row, T.goes[set]? = some row := ⟨_, zLe hset⟩; have hrl : row.length = T.cuts.length := hT.rows row (List.mem_of_getElem? hrw); obtain ⟨b, cb, hg1, hg2, hg3⟩ := h.goes set row hrw; have hnx : zbQ T set c = row.getD (zbL T.cuts c) (-1) := by unfold zbQ; rw [zLf (l := T.goes), hrw]; rfl
 obtain ⟨ix, hix⟩ : ∃ ix, ix = zbL T.cuts c := ⟨_, rfl⟩; have hcell : w.cell? ⟨b, ix, none⟩ = some (.int .i64 (zbQ T set c)) := by
  rw [hnx, <- hix]; refine hg3 ix _ ?_; rw [zLf, zLe (by omega)]; rfl
 have c0 := h.c0; have c2 := h.c2; have hsz1 : (T.goes.length : Int) < 1000000 := by omega
 have hsz2 : (row.length : Int) < 1000000 := by omega
 have hsetz : (set : Int) < (T.goes.length : Int) := by omega
 have hixz : (ix : Int) < (row.length : Int) := by omega
 have HBS := Lib.hid hbs; have HCI : Hid (∀ k : Nat, k <= T.cuts.length -> (∀ i, i < k -> T.cuts.toArray[i]! < c) -> (∀ i, k <= i -> i < T.cuts.length -> c <= T.cuts.toArray[i]!) -> (k < T.cuts.length /\ T.cuts.toArray[k]! = c -> ix = k) /\ (¬ (k < T.cuts.length /\ T.cuts.toArray[k]! = c) -> ix + 1 = k)) :=
  Lib.hid fun k h1 h2 h3 => by rw [hix]; exact cutIdx_bs hT.rise hT.head hc h1 h2 h3
 generalize zbQ T set c = NX at *; clear h hT hrow hbs hf hrw hrl hnx hix hg3; go_enter Tryz.func65, Tryz.ntmps65; go_wp2_with (fail); refine HBS.out.mono ?_; rintro e w' ⟨k, rfl, hk, h1, h2, rfl⟩; obtain ⟨q1, q2⟩ := HCI.out k hk h1 h2; clear h1 h2; by_cases hth : k < T.cuts.length /\ T.cuts.toArray[k]! = c
 . have hb : (decide (k < T.cuts.length) && decide (T.cuts.toArray[k]! = c)) = true := by rw [Bool.and_eq_true]; exact ⟨decide_eq_true hth.1, decide_eq_true hth.2⟩
   have hk2 := q1 hth; rw [hb]; subst hk2; clear hth hb q1 q2 hsz hsz1 hsz2; go_wp2_with (fail); go_ret; exact ⟨rfl, rfl⟩
 have hb : (decide (k < T.cuts.length) && decide (T.cuts.toArray[k]! = c)) = false := by
  rw [Bool.eq_false_iff]; intro h; simp at h; exact hth (by simpa using h)
 have hk2 := q2 hth; rw [hb]; have hw : wrap64 ((k : Int) - 1) = (ix : Int) := by unfold wrap64; omega
 have hwk : IntKind.i64.wrap ((k : Int) - 1) = (ix : Int) := by rw [IntWalk.i64_in _ (by omega)]; omega
 clear hth hb q1 q2 hk2 hsz hsz1 hsz2; go_wp2_with (fail); go_ret; exact ⟨rfl, rfl⟩
end
section
open Go.RowKit
theorem zf5 {B : Nat} {a b : World} (h : Below B a b) (n : Nat) : Below B a (b.drewN n) := ⟨h.os, h.tape, h.output, h.size, h.block⟩
structure By3 (w : World) (bb off n b0 b1 b2 : Nat) : Prop where
 c0 : w.cell? ⟨bb, off, none⟩ = some (.int .u8 b0)
 c1 : 1 < n -> w.cell? ⟨bb, off + 1, none⟩ = some (.int .u8 b1)
 c2 : 2 < n -> w.cell? ⟨bb, off + 2, none⟩ = some (.int .u8 b2)
 l0 : b0 < 256
 l1 : b1 < 256
 l2 : b2 < 256
 lo : 1 <= n
 hi : n <= 3
theorem zll (B bt bc cc br cr bg cg set bb off n cap b0 b1 b2 : Nat) (T : Tab) (R : Nat) (w : World) (h : zbY B w bt T bc cc br cr bg cg) (hT : WfT T R) (hset : set < T.goes.length) (hb : By3 w bb off n b0 b1 b2) (hcap : n <= cap) (hnw : n < zcE b0) (hBw : B <= w.heap.size) :
 Calls Tryz.prog 66 #[.pointer (some ⟨bt, 0, none⟩), .int .i64 set, .slice (some ⟨bb, off, none⟩) n cap] w fun e w' => e = .returned (.bool (zb7 T set n b0 b1 b2)) /\ Below w.heap.size w w' := by
 have H := Lib.hid h; have HT := Lib.hid hT; have HB := Lib.hid hb; have c0 := hb.c0; have hn1 : (1 : Int) <= (n : Int) := by have := hb.lo; omega
 have hn0 : (0 : Int) < (n : Int) := by have := hb.lo; omega
 have hncap : (n : Int) <= (cap : Int) := by omega
 have hl0 := hb.l0; obtain ⟨RB, hRB⟩ : ∃ x, x = zb7 T set n b0 b1 b2 := ⟨_, rfl⟩; have HRB := Lib.hid hRB; rw [<- hRB]; have HNW := Lib.hid hnw; clear h hT hb hRB hnw; go_enter Tryz.func66, Tryz.ntmps66; have HW : Hid (zcE b0 = if 240 <= b0 then 4 else if 224 <= b0 then 3 else 2) := Lib.hid rfl; go_upto_if 19 with (fail)
 go_cut [7] (fun s wx => ∃ W : Nat, s = .int .i64 W /\ W = (if 224 <= b0 then 3 else 2) /\ wx = w)
 case first =>
  by_cases h : 224 <= b0
  . have hzd : decide ((224 : Int) <= (b0 : Int)) = true := by simp; omega
    go_wp2_with (fail); go_meet
    case rel => exact ⟨3, rfl, by rw [if_pos h], rfl⟩
  . have hzd : decide ((224 : Int) <= (b0 : Int)) = false := by simp; omega
    go_wp2_with (fail); go_meet
    case rel => exact ⟨2, rfl, by rw [if_neg h], rfl⟩
 case rest =>
  obtain ⟨W1, rfl, hW1, rfl⟩ := hcut; have HW1 := Lib.hid hW1; have hW1a : W1 <= 3 := by rw [hW1]; split <;> omega
  clear hW1; go_upto_if 25 with (fail)
  go_cut [7] (fun s wx => ∃ W : Nat, s = .int .i64 W /\ W = zcE b0 /\ wx = wc)
  case first =>
   by_cases h : 240 <= b0
   . have hzd : decide ((240 : Int) <= (b0 : Int)) = true := by simp; omega
     have h3 : W1 = 3 := by rw [HW1.out, if_pos (by omega)]
     subst h3; go_wp2_with (fail); go_meet
     case rel => exact ⟨4, rfl, by rw [HW.out, if_pos h], rfl⟩
   . have hzd : decide ((240 : Int) <= (b0 : Int)) = false := by simp; omega
     go_wp2_with (fail); go_meet
     case rel => exact ⟨W1, rfl, by rw [HW.out, if_neg h, HW1.out], rfl⟩
  case rest =>
   obtain ⟨W, rfl, hWe, rfl⟩ := hcut; have HWE := Lib.hid hWe; have hW3 : W = 2 \/ W = 3 \/ W = 4 := by rw [hWe]; unfold zcE; split <;> (try split) <;> omega
   have HW3 := Lib.hid hW3; clear hWe hW1a hW3; go_upto_region 6 with (fail)
   go_cut [8] (fun s wx => ∃ v0 : Nat, s = .int .i32 v0 /\ v0 = b0 % 2 ^ (7 - W) /\ Below wc.heap.size wc wx)
   case first =>
    rcases HW3.out with rfl | rfl | rfl
    . have hm : bits .and .i32 (b0 : Int) 31 = (b0 : Int) % 32 := bits_mask .i32 31 (by decide) wraps_i32 5 (by decide) _ (by omega) (by omega)
      go_quiet (fail); go_wp2_with (fail); go_meet
      case rel => exact ⟨b0 % 32, by congr 1, rfl, zf5 (Below.refl _ _) _⟩
    . have hm : bits .and .i32 (b0 : Int) 15 = (b0 : Int) % 16 := bits_mask .i32 31 (by decide) wraps_i32 4 (by decide) _ (by omega) (by omega)
      go_quiet (fail); go_wp2_with (fail); go_meet
      case rel => exact ⟨b0 % 16, by congr 1, rfl, zf5 (Below.refl _ _) _⟩
    . have hm : bits .and .i32 (b0 : Int) 7 = (b0 : Int) % 8 := bits_mask .i32 31 (by decide) wraps_i32 3 (by decide) _ (by omega) (by omega)
      go_quiet (fail); go_wp2_with (fail); go_meet
      case rel => exact ⟨b0 % 8, by congr 1, rfl, zf5 (Below.refl _ _) _⟩
   case rest =>
    obtain ⟨v0, rfl, hv0, hB0⟩ := hcut; have HB0 := Lib.hid hB0; have HV0 := Lib.hid hv0; have hv0b : v0 < 32 := by
     rw [hv0]
     rcases HW3.out with rfl | rfl | rfl <;> simp <;> omega
    have c0' := (hB0.cell (p := ⟨bb, off, none⟩) (by have := World.block_lt_of_cell? _ _ c0; exact this)).trans c0; clear hv0 hB0 c0
    go_upto_block 0 with (fail)
    have HBY : Hid (By3 wc bb off n b0 b1 b2) := Lib.hid (by
     have hlt := World.block_lt_of_cell? _ _ HB.out.c0; exact ⟨(HB0.out.cell (p := ⟨bb, off, none⟩) hlt).trans HB.out.c0, fun h => (HB0.out.cell (p := ⟨bb, off + 1, none⟩) hlt).trans (HB.out.c1 h), fun h => (HB0.out.cell (p := ⟨bb, off + 2, none⟩) hlt).trans (HB.out.c2 h), HB.out.l0, HB.out.l1, HB.out.l2, HB.out.lo, HB.out.hi⟩)
    have hb1l : b1 < 256 := HB.out.l1; have hb2l : b2 < 256 := HB.out.l2; obtain ⟨wy, hwy⟩ : ∃ x : World, x = wc := ⟨_, rfl⟩; have HWY := Lib.hid hwy; clear hwy; have hv0z : (v0 : Int) < 32 := by omega
    go_cut [8, 10] from 37 to 49 (fun s _ wx => ∃ v : Nat, s = .int .i32 v /\ v = zdo n b0 b1 b2 /\ wx = wy)
    case first =>
     have hn3 : n = 1 \/ n = 2 \/ n = 3 := by have := HB.out.lo; have := HB.out.hi; omega
     have m1 : bits .and .i32 (b1 : Int) 63 = (b1 : Int) % 64 := bits_mask .i32 31 (by decide) wraps_i32 6 (by decide) _ (by omega) (by omega); have m2 : bits .and .i32 (b2 : Int) 63 = (b2 : Int) % 64 := bits_mask .i32 31 (by decide) wraps_i32 6 (by decide) _ (by omega) (by omega); have o1 : bits .or .i32 ((v0 : Int) * 64) ((b1 : Int) % 64) = (v0 : Int) * 64 + (b1 : Int) % 64 := i32_or6 _ _ (by omega) (by omega) (by omega) (by omega) (by omega)
     rcases hn3 with rfl | rfl | rfl
     . clear hn1 hn0 hncap m1 m2 o1
       by_cases hcap1 : cap = 1
       . subst hcap1
         go_wp2_with (fail); refine wp_loop_rounds 1 ?_; rw [rounds_succ]; go_wp2_with (fail); go_meet
         case rel => exact ⟨v0, rfl, by rw [HV0.out, HWE.out]; rfl, HWY.out.symm⟩
       go_wp2_with (fail)
       refine wp_loop_rounds 1 ?_; rw [rounds_succ]; go_wp2_with (fail); go_meet
       case rel => exact ⟨v0, rfl, by rw [HV0.out, HWE.out]; rfl, HWY.out.symm⟩
     . have hcap1 : ¬ cap = 1 := by omega
       have c1 := HBY.out.c1 (by omega); clear hn1 hn0 hncap m2; go_wp2_with (fail); refine wp_loop_rounds 2 ?_; rw [rounds_succ]; go_wp2_with (fail); rw [rounds_succ]; go_wp2_with (fail); go_meet
       case rel => exact ⟨v0 * 64 + b1 % 64, by congr 1, by rw [HV0.out, HWE.out]; rfl, HWY.out.symm⟩
     . have hcap1 : ¬ cap = 1 := by omega
       have c1 := HBY.out.c1 (by omega); have c2 := HBY.out.c2 (by omega); have o2 : bits .or .i32 (((v0 : Int) * 64 + (b1 : Int) % 64) * 64) ((b2 : Int) % 64) = ((v0 : Int) * 64 + (b1 : Int) % 64) * 64 + (b2 : Int) % 64 := i32_or6 _ _ (by omega) (by omega) (by omega) (by omega) (by omega); clear hn1 hn0 hncap; go_wp2_with (fail); refine wp_loop_rounds 3 ?_; rw [rounds_succ]; go_wp2_with (fail); rw [rounds_succ]; go_wp2_with (fail); rw [rounds_succ]; go_wp2_with (fail); go_meet
       case rel => exact ⟨(v0 * 64 + b1 % 64) * 64 + b2 % 64, by congr 1, by rw [HV0.out, HWE.out]; rfl, HWY.out.symm⟩
    case rest =>
     obtain ⟨v, rfl, hv, hwx⟩ := hcut; rw [<- HWY.out] at HB0 HBY; rw [<- hwx] at HB0 HBY; have HV := Lib.hid hv; have hWl : W = 2 \/ W = 3 \/ W = 4 := HW3.out; have hnW : n < W := by rw [HWE.out]; exact HNW.out
     have hvb : v < 2 ^ (1 + 6 * n) := by
      rw [hv]; have e : zcE b0 = W := HWE.out.symm; have hn3 : n = 1 \/ n = 2 \/ n = 3 := by have := HB.out.lo; have := HB.out.hi; omega
      unfold zdo; rw [e]
      rcases hn3 with rfl | rfl | rfl <;> rcases hWl with rfl | rfl | rfl <;> simp <;> omega
     clear hv hwx; have hn3 : n = 1 \/ n = 2 \/ n = 3 := by have := HB.out.lo; have := HB.out.hi; omega
     have HN3 := Lib.hid hn3; have hWn : (6 : Int) * ((W : Int) - (n : Int)) = ((6 * (W - n) : Nat) : Int) := by omega
     have HWN := Lib.hid hWn; clear hn3 hWn; go_upto_region 12 with (fail)
     go_cut [11] (fun s wx => ∃ m : Nat, s = .int .i64 m /\ m = 6 * (W - n) /\ wx = wc)
     case first =>
      rcases HW3.out with rfl | rfl | rfl <;> rcases HN3.out with rfl | rfl | rfl
      all_goals first
       | (exfalso; omega)
       | (go_wp2_with (fail); go_meet; exact ⟨_, rfl, rfl, rfl⟩)
     case rest =>
      obtain ⟨m, rfl, hm, rfl⟩ := hcut; have HMM := Lib.hid hm; clear hm; go_upto_region 13 with (fail); go_cut [8, 12] (fun s8 s12 wx => ∃ lo hi : Nat, s8 = .int .i32 lo /\ s12 = .int .i32 ((hi : Int) - 1) /\ lo = v * 64 ^ (W - n) /\ hi = (v + 1) * 64 ^ (W - n) /\ lo < 1000000000 /\ hi < 1000000000 /\ 0 < hi /\ Below wc.heap.size wc wx)
      case first =>
       rcases HW3.out with rfl | rfl | rfl <;> rcases HN3.out with rfl | rfl | rfl
       all_goals first
        | (exfalso; omega)
        | skip
       all_goals
        have hmm := HMM.out; simp at hmm; subst hmm; simp at hvb; have hvz : (v : Int) < 1048576 := by omega
        go_quiet (fail); go_wp2_with (fail); go_meet; refine ⟨_, _, ?_, ?_, rfl, rfl, ?_, ?_, ?_, zf5 (Below.refl _ _) _⟩
       all_goals first
        | (simp; done)
        | (simp; omega)
        | omega
      case rest =>
       obtain ⟨lo, hi, rfl, rfl, hlo, hhi, hlo1, hhi1, hhi0, hB2⟩ := hcut; have HLO := Lib.hid (And.intro hlo hhi); have HB2 := Lib.hid (HB0.out.trans (hB2.mono HB0.out.size)); have HTA := Lib.hid (H.out.below (HB2.out.mono hBw)); clear hlo hhi hB2; have hi2 : ∀ w, (Instr.index 214 (.agg #[.int .i32 0, .int .i32 0, .int .i32 128, .int .i32 2048, .int .i32 65536]) (.int .i64 2)).run Tryz.prog w = .ok (.int .i32 128) w := fun _ => by kernel_rfl
       have hi3 : ∀ w, (Instr.index 214 (.agg #[.int .i32 0, .int .i32 0, .int .i32 128, .int .i32 2048, .int .i32 65536]) (.int .i64 3)).run Tryz.prog w = .ok (.int .i32 2048) w := fun _ => by kernel_rfl
       have hi4 : ∀ w, (Instr.index 214 (.agg #[.int .i32 0, .int .i32 0, .int .i32 128, .int .i32 2048, .int .i32 65536]) (.int .i64 4)).run Tryz.prog w = .ok (.int .i32 65536) w := fun _ => by kernel_rfl
       go_upto_region 14 with (fail)
       go_cut [8] (fun s wx => ∃ l2 : Int, s = .int .i32 l2 /\ l2 = max (lo : Int) (zep W) /\ wx = wc)
       case first =>
        rcases HW3.out with rfl | rfl | rfl
        all_goals
         go_wp2_with (fail); go_meet; refine ⟨_, rfl, ?_, rfl⟩; simp [zep] <;> omega
       case rest =>
        obtain ⟨l2, rfl, hl2, rfl⟩ := hcut; have HL2 := Lib.hid hl2; clear hl2 hi2 hi3 hi4; obtain ⟨row, hrw⟩ : ∃ row, T.goes[set]? = some row := ⟨_, zLe hset⟩; have hrl : row.length = T.cuts.length := HT.out.rows row (List.mem_of_getElem? hrw); have hgd : T.goes.getD set [] = row := by rw [zLf, hrw]; rfl
        obtain ⟨b, cb, hg1, hg2, hg3⟩ := HTA.out.goes set row hrw; obtain ⟨rc, hrow⟩ := HTA.out.cuts; have HRW := Lib.hid hrow; have HG3 := Lib.hid hg3; have HRL := Lib.hid hrl; have HGD := Lib.hid hgd; have t0 := HTA.out.c0; have t2 := HTA.out.c2; have hsetz : (set : Int) < (T.goes.length : Int) := by omega
        have hrs : row.length < 1000000 := by have := HTA.out.size.1; omega
        have hrz : (row.length : Int) <= 9223372036854775807 := by omega
        clear hrw hrl hgd hrow hg3 hn1 hn0 hncap; have HRB2 : Hid (RB = hitT T set l2 ((hi : Int) - 1)) := Lib.hid (by
         rw [HRB.out]; unfold zb7; have e : zcE b0 = W := HWE.out.symm; rw [<- HV.out, e, <- HLO.out.1, <- HLO.out.2, <- HL2.out])
        go_wp2_with (fail)
        go_loop [13, 14, 15, 77] (fun _ _ _ s77 => ∃ k : Nat, s77 = .int .i64 k /\ k <= row.length /\ ∀ i, i < k -> zhO T set l2 ((hi : Int) - 1) i = false) (fun _ _ _ s77 => row.length - (RowKit.intOf s77).toNat)
        case atStart => exact ⟨0, rfl, Nat.zero_le _, fun i h => absurd h (Nat.not_lt_zero _)⟩
        case round =>
         obtain ⟨k, rfl, hk, hno⟩ := hrel; have HNO := Lib.hid hno; clear hno; by_cases hlt : k < row.length
         . have hz : (k : Int) < (row.length : Int) := by omega
           have hkc : k < T.cuts.length := by have := HRL.out; omega
           have hkcz : (k : Int) < (T.cuts.length : Int) := by omega
           obtain ⟨x, hx⟩ : ∃ x, row[k]? = some x := ⟨_, zLe hlt⟩; have cx := HG3.out k x hx; have cc0 := HRW.out.cell k (by simpa using hkc); rw [ze5 T.cuts k hkc] at cc0; have hhit : zhO T set l2 ((hi : Int) - 1) k = (decide (0 <= x) && decide (max l2 (T.cuts.getD k 0) <= min ((hi : Int) - 1) (if k + 1 < T.cuts.length then T.cuts.getD (k + 1) 0 - 1 else 1114111))) := by
            unfold zhO; rw [HGD.out, zLf (l := row), hx]; rfl
           have HHIT := Lib.hid hhit; have hany : zhO T set l2 ((hi : Int) - 1) k = true -> RB = true := fun h => by
            rw [HRB2.out]; unfold hitT; rw [List.any_eq_true, HGD.out]; exact ⟨k, List.mem_range.2 hlt, h⟩
           have HANY := Lib.hid hany; clear hhit hany hx; have HSTEP : Hid (zhO T set l2 ((hi : Int) - 1) k = false -> ∀ i, i < k + 1 -> zhO T set l2 ((hi : Int) - 1) i = false) := Lib.hid fun h i hi => by
            by_cases e : i = k
            . rw [e]; exact h
            exact HNO.out i (by omega)
           have htop : -1 <= T.cuts.getD (k + 1) 0 /\ T.cuts.getD (k + 1) 0 <= 1114111 := by
            rcases Nat.lt_or_ge (k + 1) T.cuts.length with h | h
            . have hm : T.cuts.getD (k + 1) 0 ∈ T.cuts := by rw [zLf, zLe h]; simp
              refine ⟨?_, HT.out.top _ hm⟩; have h0 : T.cuts.getD 0 0 = 0 := by have := HT.out.head; cases hc : T.cuts <;> simp_all
              have h1 := List.pairwise_iff_getElem.1 HT.out.rise 0 (k + 1) (by omega) h (by omega); rw [zLf, zLe (by omega)] at h0; rw [zLf, zLe h]; simp at h0 ⊢; omega
            rw [zLf, List.getElem?_eq_none h]; simp
           generalize hck : T.cuts.getD k 0 = ck at *; generalize hck1 : T.cuts.getD (k + 1) 0 = ck1 at *; generalize hHA : zhO T set l2 ((hi : Int) - 1) k = HA at *; by_cases hk1 : k + 1 < T.cuts.length
           . have hk1z : (k : Int) + 1 < (T.cuts.length : Int) := by omega
             have cc1 := HRW.out.cell (k + 1) (by simpa using hk1); rw [ze5 T.cuts (k + 1) hk1, hck1] at cc1; rw [if_pos hk1] at HHIT; clear hck hck1 hHA; go_wp2_with (fail)
             all_goals first
              | (go_ret; refine ⟨congrArg (fun b => Ending.returned (Value.bool b)) (Eq.symm (HANY.out ?_)), HB2.out⟩; rw [HHIT.out]; simp; omega)
              | skip
             all_goals first
              | (go_round; (focus (refine ⟨k + 1, by go_num, by omega, HSTEP.out ?_⟩; rw [HHIT.out]; simp; omega)); (simp [RowKit.intOf] <;> omega))
              | skip
           have hk1z : ¬ (k : Int) + 1 < (T.cuts.length : Int) := by omega
           rw [if_neg hk1] at HHIT; clear hck hck1 hHA; go_wp2_with (fail)
           all_goals first
            | (go_ret; refine ⟨congrArg (fun b => Ending.returned (Value.bool b)) (Eq.symm (HANY.out ?_)), HB2.out⟩; rw [HHIT.out]; simp; omega)
            | skip
           all_goals first
            | (go_round; (focus (refine ⟨k + 1, by go_num, by omega, HSTEP.out ?_⟩; rw [HHIT.out]; simp; omega)); (simp [RowKit.intOf] <;> omega))
            | skip
         have hz : ¬ (k : Int) < (row.length : Int) := by omega
         go_wp2_with (fail); go_ret; have hf : RB = false := by
          rw [HRB2.out]; unfold hitT; rw [List.any_eq_false, HGD.out]; intro i hi; rw [HNO.out i (by have := List.mem_range.1 hi; omega)]; simp
         exact ⟨congrArg (fun b => Ending.returned (Value.bool b)) hf.symm, HB2.out⟩
end
end Go.Proofs.YtghpmhllpaheiaaGreatDoor
