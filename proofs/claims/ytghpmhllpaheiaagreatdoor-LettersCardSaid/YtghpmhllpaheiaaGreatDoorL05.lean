/-
  Part of the proof: So1, So2, So3. No condition beyond those in the statements.
-/
import Derived.Sort.LotD7
import Derived.Sort.AssemblyPlain
import Derived.BigRegion
import Derived.Test.YtghpmhllpaheiaaGreatDoorL00
set_option linter.unusedVariables false
set_option linter.unusedSimpArgs false
set_option maxRecDepth 100000
set_option maxHeartbeats 4000000
namespace Go.Proofs.YtghpmhllpaheiaaGreatDoor
section
open Go.RowKit Go.Lib
open Go.Sort (swp ltInt)
def za9 (w : World) (b : Nat) (d : Array Int) (rest : List Value) : Prop :=
 w.heap[b]? = some (.cells (d.toList.map (Value.int .i32) ++ rest).toArray 21 (0, 0))
theorem za9.lt {w : World} {b : Nat} {d : Array Int} {r : List Value} (h : za9 w b d r) : b < w.heap.size := zaa h
theorem za9.cell {w : World} {b : Nat} {d : Array Int} {r : List Value} (h : za9 w b d r) (k : Nat) (hk : k < d.size) : w.cell? ⟨b, k, none⟩ = some (.int .i32 d[k]!) := by
 rw [zab w b k _ _ _ h]; rw [zLa, List.getElem?_append_left (by simpa using hk), List.getElem?_map, Array.getElem?_toList, Array.getElem?_eq_getElem hk, getElem!_pos d k hk]; rfl
theorem za9.free {w : World} {b : Nat} {d : Array Int} {r : List Value} (h : za9 w b d r) (k : Nat) : w.frozen? ⟨b, k, none⟩ = false := zae w b k _ _ h
theorem za9.set {w : World} {b : Nat} {d : Array Int} {r : List Value} (h : za9 w b d r) (k : Nat) (hk : k < d.size) (x : Int) : za9 (w.setCell ⟨b, k, none⟩ (.int .i32 x)) b (d.setIfInBounds k x) r := by
 unfold za9 at h ⊢; rw [zac w b k _ _ _ _ h]; congr 2; apply Array.ext'; simp [hk, List.set_append, List.map_set]
theorem za9.swap {w : World} {b : Nat} {d : Array Int} {r : List Value} (h : za9 w b d r) (i j : Nat) (hi : i < d.size) (hj : j < d.size) :
 za9 ((w.setCell ⟨b, i, none⟩ (.int .i32 d[j]!)).setCell ⟨b, j, none⟩ (.int .i32 d[i]!)) b (swp d i j) r :=
 (h.set i hi _).set j (by simpa using hj) _
theorem za9.drew {w : World} {b : Nat} {d : Array Int} {r : List Value} (h : za9 w b d r) : za9 w.drew b d r := h
theorem zit (x y : Int) (w : World) : Calls Tryz.prog 94 #[.int .i32 x, .int .i32 y] w fun e w' => e = .returned (.bool (ltInt x y)) /\ w = w' := by
 unfold ltInt; have hn : ∀ (x : Int) (w : World), Calls Tryz.prog 111 #[.int .i32 x] w fun e w' => e = .returned (.bool false) /\ w = w' := by
  intro x w; go_enter Tryz.func111, Tryz.ntmps111; go_wp2; go_ret; exact ⟨rfl, rfl⟩
 go_enter Tryz.func94, Tryz.ntmps94; go_wp2_with (go_at_call 111; refine (hn _ _).mono ?_; rintro e w' ⟨rfl, rfl⟩); go_ret; exact ⟨rfl, rfl⟩
theorem zbf (x y : Int) (w : World) : Calls Tryz.prog 94 #[.int .i32 x, .int .i32 y] w fun e w' => e = .returned (.bool (ltInt x y)) /\ w' = w :=
 (zit x y w).mono fun _ _ h => ⟨h.1, h.2.symm⟩
def SoR (b n : Nat) (r : List Value) (w : World) (d : Array Int) (w' : World) : Prop := d.size = n /\ za9 w' b d r /\ w.grownBy w' (some b)
theorem SoR.refl {b n : Nat} {r : List Value} {w : World} {d : Array Int} (h : za9 w b d r) (hn : d.size = n) : SoR b n r w d w := ⟨hn, h, zaZ _ _⟩
theorem zbD (w : World) (b i j : Nat) (u v : Value) : w.grownBy ((w.setCell ⟨b, i, none⟩ u).setCell ⟨b, j, none⟩ v) (some b) :=
 ⟨rfl, rfl, rfl, by simp [World.setCell], fun k _ hr => by
  have hk : k ≠ b := fun e => hr (by rw [e]); show ((w.setCell ⟨b, i, none⟩ u).setCell ⟨b, j, none⟩ v).heap[k]? = _; rw [zaf _ _ _ _ hk, zaf _ _ _ _ hk]⟩
theorem SoR.swap {b n : Nat} {r : List Value} {w wr : World} {d : Array Int} (h : SoR b n r w d wr) (i j : Nat) (hi : i < n) (hj : j < n) :
 SoR b n r w (swp d i j) ((wr.setCell ⟨b, i, none⟩ (.int .i32 d[j]!)).setCell ⟨b, j, none⟩ (.int .i32 d[i]!)) :=
 ⟨by rw [Go.Sort.size_swp]; exact h.1, h.2.1.swap i j (by have := h.1; omega) (by have := h.1; omega), zad h.2.2 (zbD _ _ _ _ _ _)⟩
theorem SoR.drew {b n : Nat} {r : List Value} {w wr : World} {d : Array Int} (h : SoR b n r w d wr) : SoR b n r w d wr.drew := ⟨h.1, h.2.1.drew, ⟨h.2.2.os, h.2.2.tape, h.2.2.output, h.2.2.size, h.2.2.block⟩⟩
theorem SoR.drewN {b n : Nat} {r : List Value} {w wr : World} {d : Array Int} (h : SoR b n r w d wr) (k : Nat) : SoR b n r w d (wr.drewN k) := ⟨h.1, h.2.1, ⟨h.2.2.os, h.2.2.tape, h.2.2.output, h.2.2.size, h.2.2.block⟩⟩
theorem SoR.trans {b n : Nat} {r : List Value} {w w1 w2 : World} {d d' : Array Int} (h : SoR b n r w d w1) (k : SoR b n r w1 d' w2) : SoR b n r w d' w2 := ⟨k.1, k.2.1, zad h.2.2 k.2.2⟩
theorem ze1 (a b i : Nat) (d : Array Int) (h : i < b) : Sort.insOuter ltInt a b i d = Sort.insOuter ltInt a b (i + 1) (Sort.insInner ltInt a i d) := by rw [Sort.insOuter, if_pos h]
theorem ziT (a b i : Nat) (d : Array Int) (h : ¬ i < b) : Sort.insOuter ltInt a b i d = d := by rw [Sort.insOuter, if_neg h]
theorem zjT (a j : Nat) (d : Array Int) (h : a < j + 1) (h2 : ltInt d[j + 1]! d[j]! = true) : Sort.insInner ltInt a (j + 1) d = Sort.insInner ltInt a j (swp d (j + 1) j) := by
 rw [Sort.insInner, if_pos (by simp [h2]; omega)]
theorem zeP (a j : Nat) (d : Array Int) (h : ¬ a < j + 1 \/ ltInt d[j + 1]! d[j]! = false) : Sort.insInner ltInt a (j + 1) d = d := by
 rw [Sort.insInner, if_neg]
 rcases h with h | h
 . simp; omega
 simp [h]
theorem zhQ (blk n cap a b : Nat) (r : List Value) (d : Array Int) (w : World) (hR : za9 w blk d r) (hn : d.size = n) (hab : a <= b) (hb : b <= n) (hsz : n < 1000000000) :
 Calls Tryz.prog 115 #[.slice (some ⟨blk, 0, none⟩) n cap, .int .i64 a, .int .i64 b] w fun e w' => e = .returned (.tuple #[]) /\ SoR blk n r w (Sort.insertionSort ltInt d a b) w' := by
 have HR := hid hR; have HN := hid hn; have hsz1 : (n : Int) < 1000000000 := by omega
 have hb1 : (b : Int) <= n := by omega
 have hab1 : (a : Int) <= b := by omega
 clear hR hn; unfold Sort.insertionSort; go_enter Tryz.func115, Tryz.ntmps115; go_wp2; go_loopw [6, 7] (fun i _ wr => ∃ (k : Nat) (dk : Array Int), i = .int .i64 k /\ a + 1 <= k /\ k <= b + 1 /\ SoR blk n r w dk wr /\ Sort.insOuter ltInt a b k dk = Sort.insOuter ltInt a b (a + 1) d) (fun i _ _ => (b + 1) - (RowKit.intOf i).toNat)
 case atStart => exact ⟨a + 1, d, by go_num, by omega, by omega, SoR.refl HR.out HN.out, rfl⟩
 case round =>
  obtain ⟨k, dk, rfl, hk1, hk2, hS, hE⟩ := hrel; have HE := hid hE; have HS := hid hS; clear hS hE; by_cases hlt : k < b
  . have hz : (k : Int) < (b : Int) := by omega
    obtain ⟨wo, rfl⟩ : ∃ wo : World, wo = wr := ⟨_, rfl⟩; go_wp2; go_loopw [7] (fun j wr => ∃ (jk : Nat) (dj : Array Int), j = .int .i64 jk /\ jk <= k /\ SoR blk n r w dj wr /\ Sort.insInner ltInt a jk dj = Sort.insInner ltInt a k dk) (fun j _ => (RowKit.intOf j).toNat)
    case atStart => exact ⟨k, dk, rfl, Nat.le_refl _, HS.out, rfl⟩
    case round =>
     obtain ⟨jk, dj, rfl, hj, hSj, hEj⟩ := hrel; have HEj := hid hEj; have HSj := hid hSj; clear hSj hEj; by_cases hja : a < jk
     . obtain ⟨j, hjq⟩ : ∃ j, jk = j + 1 := ⟨jk - 1, by omega⟩
       have hz2 : (a : Int) < (jk : Int) := by omega
       have hzd : decide ((a : Int) < (jk : Int)) = true := by simpa using hz2
       have c1 := HSj.out.2.1.cell jk (by have := HSj.out.1; omega); have c0 := HSj.out.2.1.cell j (by have := HSj.out.1; omega); have hw : IntKind.i64.wrap ((jk : Int) - 1) = (j : Int) := by rw [IntWalk.i64_in _ (by omega)]; omega
       have hf1 := HSj.out.2.1.free jk; have hf0 := HSj.out.2.1.free j; have hjn : (jk : Int) < (n : Int) := by omega
       have hj0 : (j : Int) < (n : Int) := by omega
       have hjne : jk ≠ j := by omega
       have hjne' : j ≠ jk := by omega
       have hinj : j + 1 = jk := by omega
       have hgo := zjT a j dj; have hst := zeP a j dj; rw [hinj] at hgo hst; have HGO := hid hgo; have HST := hid hst; have HINJ := hid hinj; clear hjq hgo hst hinj; have hlj := HSj.out.2.1.lt; cases hl : ltInt dj[jk]! dj[j]! with
       | true =>
        have HN1 := hid (HGO.out (by omega) hl); go_wp2; go_quiet ((go_at_call 94; exact Calls.quiet_of_same (zbf _ _ _))); go_wp2
        go_region
        all_goals go_wp2
        all_goals go_roundw
        case rel =>
         have hi := HINJ.out; refine ⟨j, swp dj jk j, rfl, by omega, (HSj.out.drewN _).swap jk j (by omega) (by omega), by rw [<- HN1.out, HEj.out]⟩
        case measure => simp [RowKit.intOf]; have := HINJ.out; omega
       | false =>
        have HN1 := hid (HST.out (.inr hl)); go_wp2; go_quiet ((go_at_call 94; exact Calls.quiet_of_same (zbf _ _ _))); go_wp2; go_roundw
        case rel => exact ⟨k + 1, dj, by go_num, by omega, by omega, HSj.out.drewN _, by rw [<- HE.out, ze1 a b k dk hlt, <- HEj.out, HN1.out]⟩
        case measure => simp [RowKit.intOf]; omega
     have hzd : decide ((a : Int) < (jk : Int)) = false := by simp; omega
     go_wp2; go_quiet (fail); go_wp2; go_roundw
     case rel => exact ⟨k + 1, dj, by go_num, by omega, by omega, HSj.out.drewN _, by rw [<- HE.out, ze1 a b k dk hlt, <- HEj.out]; cases jk with | zero => rfl | succ j => rw [zeP a j dj (.inl (by omega))]⟩
     case measure => simp [RowKit.intOf]; omega
  have hz : ¬ (k : Int) < (b : Int) := by omega
  go_wp2; go_end0; exact ⟨rfl, by rw [<- HE.out, ziT a b k dk hlt]; exact HS.out⟩
end
section
open Go.RowKit Go.Lib
open Go.Sort (swp ltInt)
def zf8 (d : Array Int) (hi F rk : Nat) : Nat := if 2 * rk + 1 + 1 < hi /\ ltInt d[F + (2 * rk + 1)]! d[F + (2 * rk + 1) + 1]! = true then 2 * rk + 2 else 2 * rk + 1
theorem sift_step (d : Array Int) (hi F rk : Nat) (h : ¬ 2 * rk + 1 ≥ hi) :
 Sort.siftDown ltInt hi F rk d = if ltInt d[F + rk]! d[F + zf8 d hi F rk]! = true then Sort.siftDown ltInt hi F (zf8 d hi F rk) (swp d (F + rk) (F + zf8 d hi F rk)) else d := by
 rw [Sort.siftDown, dif_neg h]; unfold zf8; by_cases h1 : 2 * rk + 1 + 1 < hi /\ ltInt d[F + (2 * rk + 1)]! d[F + (2 * rk + 1) + 1]! = true
 . rw [if_pos h1, if_pos (by simp [h1])]
   by_cases h2 : ltInt d[F + rk]! d[F + (2 * rk + 2)]! = true
   . rw [if_pos h2, if_neg (by simp [h2]), dif_pos (by omega)]
   rw [if_neg h2, if_pos (by simpa using h2)]
 rw [if_neg h1, if_neg (by simpa using h1)]
 by_cases h2 : ltInt d[F + rk]! d[F + (2 * rk + 1)]! = true
 . rw [if_pos h2, if_neg (by simp [h2])]
 rw [if_neg h2, if_pos (by simpa using h2)]
theorem sift_end (d : Array Int) (hi F rk : Nat) (h : 2 * rk + 1 ≥ hi) : Sort.siftDown ltInt hi F rk d = d := by rw [Sort.siftDown, dif_pos h]
theorem zh2 (blk n cap lo hi F : Nat) (r : List Value) (d : Array Int) (w : World) (hR : za9 w blk d r) (hn : d.size = n) (hb : F + hi <= n) (hsz : n < 1000000000) (hlo : lo < 1000000000) :
 Calls Tryz.prog 144 #[.slice (some ⟨blk, 0, none⟩) n cap, .int .i64 lo, .int .i64 hi, .int .i64 F] w fun e w' => e = .returned (.tuple #[]) /\ SoR blk n r w (Sort.siftDown ltInt hi F lo d) w' := by
 have HR := hid hR; have HN := hid hn; have hsz1 : (n : Int) < 1000000000 := by omega
 have hb1 : (F : Int) + hi <= n := by omega
 have hlo1 : (lo : Int) < 1000000000 := by omega
 clear hR hn; go_enter Tryz.func144, Tryz.ntmps144; go_wp2; go_loopw [8, 9] (fun rt _ wr => ∃ (rk : Nat) (dk : Array Int), rt = .int .i64 rk /\ (rk = lo \/ rk < hi) /\ SoR blk n r w dk wr /\ Sort.siftDown ltInt hi F rk dk = Sort.siftDown ltInt hi F lo d) (fun rt _ _ => (hi + 1000000000) - (RowKit.intOf rt).toNat)
 case atStart => exact ⟨lo, d, rfl, .inl rfl, SoR.refl HR.out HN.out, rfl⟩
 case round =>
  obtain ⟨rk, dk, rfl, hrk, hS, hE⟩ := hrel; have HE := hid hE; have HS := hid hS; have hrk1 : (rk : Int) < 1000000000 := by omega
  have hrk2 : rk < 1000000000 := by omega
  clear hS hE hrk; obtain ⟨c, hc⟩ : ∃ c, c = 2 * rk + 1 := ⟨_, rfl⟩; have hcz : 2 * (rk : Int) + 1 = (c : Int) := by omega
  have hw0 : IntKind.i64.wrap (2 * (rk : Int)) = 2 * (rk : Int) := IntWalk.i64_in _ (by omega); have HC := hid hc; by_cases hend : hi <= c
  . have hz : (hi : Int) <= (c : Int) := by omega
    clear hc; go_wp2; go_end0; exact ⟨rfl, by rw [<- HE.out, sift_end dk hi F rk (by have := HC.out; omega)]; exact HS.out⟩
  have hz : ¬ (hi : Int) <= (c : Int) := by omega
  have hzd : decide ((hi : Int) <= (c : Int)) = false := by simp; omega
  obtain ⟨ch, hch⟩ : ∃ ch, ch = zf8 dk hi F rk := ⟨_, rfl⟩; have hstep := sift_step dk hi F rk (by omega); rw [<- hch] at hstep; have HSt := hid hstep; obtain ⟨fr, hfr⟩ : ∃ k, k = F + rk := ⟨_, rfl⟩; obtain ⟨fch, hfch⟩ : ∃ k, k = F + ch := ⟨_, rfl⟩; obtain ⟨fc, hfc⟩ : ∃ k, k = F + c := ⟨_, rfl⟩; have hchb : ch < hi /\ rk < ch := by
   rw [hch]; unfold zf8; split <;> omega
  have hchz : (ch : Int) < hi := by omega
  have hfrn : (fr : Int) < n := by omega
  have hfcn : (fc : Int) < n := by omega
  have hfchn : (fch : Int) < n := by omega
  have c2 := HS.out.2.1.cell fc (by have := HS.out.1; omega); have hw1 : IntKind.i64.wrap ((F : Int) + (c : Int)) = (fc : Int) := by rw [IntWalk.i64_in _ (by omega)]; omega
  have hw2 : IntKind.i64.wrap ((F : Int) + (rk : Int)) = (fr : Int) := by rw [IntWalk.i64_in _ (by omega)]; omega
  have HW3 : Hid (IntKind.i64.wrap ((F : Int) + (ch : Int)) = (fch : Int)) := hid (by rw [IntWalk.i64_in _ (by omega)]; omega); have hne : fr ≠ fch := by omega
  have hne' : fch ≠ fr := by omega
  have h3 : (decide ((c : Int) + 1 < (hi : Int)) = false /\ ch = c) \/ ((c : Int) + 1 < (hi : Int) /\ ltInt dk[fc]! dk[fc + 1]! = false /\ ch = c) \/ ((c : Int) + 1 < (hi : Int) /\ ltInt dk[fc]! dk[fc + 1]! = true /\ ch = c + 1) := by
   rw [hch, hfc, hc]; unfold zf8; by_cases g1 : 2 * rk + 1 + 1 < hi
   . cases g2 : ltInt dk[F + (2 * rk + 1)]! dk[F + (2 * rk + 1) + 1]! with
     | false => exact .inr (.inl ⟨by omega, rfl, by rw [if_neg (by simp)]⟩)
     | true => exact .inr (.inr ⟨by omega, rfl, by rw [if_pos ⟨g1, rfl⟩]⟩)
   exact .inl ⟨by simp; omega, by rw [if_neg (by omega)]⟩
  have HFF := hid (And.intro hfr hfch); have HCB := hid hchb; have hwc : IntKind.i64.wrap ((c : Int) + 1) = (c : Int) + 1 := IntWalk.i64_in _ (by omega); have hcn : (c : Int) < n := by omega
  clear hch hstep hfr hfch hchb hc
  rcases h3 with ⟨g, g3⟩ | ⟨g1, g2, g3⟩ | ⟨g1, g2, g3⟩
  rotate_left
  focus
   subst g3; have c3 := HS.out.2.1.cell (fc + 1) (by have := HS.out.1; omega); have hwd : IntKind.i64.wrap ((fc : Int) + 1) = ((fc + 1 : Nat) : Int) := by rw [IntWalk.i64_in _ (by omega)]; omega
   have hcn1 : ((fc + 1 : Nat) : Int) < n := by omega
   have g1d : decide ((ch : Int) + 1 < (hi : Int)) = true := by simpa using g1
   clear hfc; generalize fc + 1 = fc1 at *; go_wp2; go_quiet ((go_at_call 94; exact Calls.quiet_of_same (zbf _ _ _))); have HS2 := hid (HS.out.drewN nq); clear c2 c3 g1 g2 g1d hwd hcn1 hcn; generalize wr.drewN nq = w2 at HS2 ⊢; go_wp2
  rotate_left
  focus
   subst g3; have c3 := HS.out.2.1.cell (fc + 1) (by have := HS.out.1; omega); have hwd : IntKind.i64.wrap ((fc : Int) + 1) = ((fc + 1 : Nat) : Int) := by rw [IntWalk.i64_in _ (by omega)]; omega
   have hcn1 : ((fc + 1 : Nat) : Int) < n := by omega
   have g1d : decide ((c : Int) + 1 < (hi : Int)) = true := by simpa using g1
   clear hfc; generalize fc + 1 = fc1 at *; go_wp2; go_quiet ((go_at_call 94; exact Calls.quiet_of_same (zbf _ _ _))); have HS2 := hid (HS.out.drewN nq); clear c2 c3 g1 g2 g1d hwd hcn1 hcn; generalize wr.drewN nq = w2 at HS2 ⊢; have hcc : (c : Int) + 1 = ((c + 1 : Nat) : Int) := by omega
   generalize c + 1 = ch at *; go_wp2
  rotate_left
  focus
   subst g3; clear hfc; go_wp2; go_quiet (fail); have HS2 := hid (HS.out.drewN nq); clear c2 g hcn; generalize wr.drewN nq = w2 at HS2 ⊢; go_wp2
  all_goals
   clear hw1; have hw3 := HW3.out; have c0 := HS2.out.2.1.cell fr (by have := HS2.out.1; omega); have c1 := HS2.out.2.1.cell fch (by have := HS2.out.1; omega); have hf1 := HS2.out.2.1.free fr; have hf0 := HS2.out.2.1.free fch; have hlj := HS2.out.2.1.lt; cases hl : ltInt dk[fr]! dk[fch]! with
   | true =>
    go_quiet ((go_at_call 94; exact Calls.quiet_of_same (zbf _ _ _))); go_wp2
    go_region
    all_goals go_wp2
    all_goals go_roundw
    case rel => exact ⟨_, swp dk fr fch, rfl, .inr HCB.out.1, (HS2.out.drewN _).swap fr fch (by omega) (by omega), by rw [<- HE.out, HSt.out, if_pos (by rw [<- HFF.out.1, <- HFF.out.2]; exact hl), <- HFF.out.1, <- HFF.out.2]⟩
    case measure => simp [RowKit.intOf]; have := HCB.out; omega
   | false =>
    go_quiet ((go_at_call 94; exact Calls.quiet_of_same (zbf _ _ _))); go_wp2; refine bodyPost_ret (v := .tuple #[]) (by simp [results, Tryz.results144, go_sem]) rfl ?_; exact ⟨rfl, by rw [<- HE.out, HSt.out, if_neg (by rw [<- HFF.out.1, <- HFF.out.2, hl]; simp)]; exact HS2.out.drewN _⟩
end
section
open Go.RowKit Go.Lib
open Go.Sort (swp ltInt)
theorem zfP (F k : Nat) (d : Array Int) : Sort.heapPop ltInt F (k + 1) d = Sort.heapPop ltInt F k (Sort.siftDown ltInt k F 0 (swp d F (F + k))) := rfl
theorem zg9 (hi F k : Nat) (d : Array Int) : Sort.heapBuild ltInt hi F (k + 1) d = Sort.heapBuild ltInt hi F k (Sort.siftDown ltInt hi F k d) := rfl
def Down (k : Nat) (i : Value) : Prop := (k = 0 /\ i = .int .i64 (-1)) \/ ∃ j : Nat, k = j + 1 /\ i = .int .i64 j
theorem Down.next (k : Nat) : Down k (.int .i64 ((k : Int) - 1)) := by
 cases k with
 | zero => exact .inl ⟨rfl, rfl⟩
 | succ j => exact .inr ⟨j, rfl, by congr 1; omega⟩
theorem ziS (blk n cap a b : Nat) (r : List Value) (d : Array Int) (w : World) (hR : za9 w blk d r) (hn : d.size = n) (hab : a < b) (hb : b <= n) (hsz : n < 1000000000) :
 Calls Tryz.prog 116 #[.slice (some ⟨blk, 0, none⟩) n cap, .int .i64 a, .int .i64 b] w fun e w' => e = .returned (.tuple #[]) /\ SoR blk n r w (Sort.heapSort ltInt d a b) w' := by
 have HR := hid hR; have HN := hid hn; have hsz1 : (n : Int) < 1000000000 := by omega
 have hb1 : (b : Int) <= n := by omega
 have hab1 : (a : Int) < b := by omega
 obtain ⟨m, hm⟩ : ∃ m, b = a + m := ⟨b - a, by omega⟩; obtain ⟨K0, hK0⟩ : ∃ K0, K0 = (m - 1) / 2 := ⟨_, rfl⟩; have hd : Sort.heapSort ltInt d a b = Sort.heapPop ltInt a m (Sort.heapBuild ltInt m a (K0 + 1) d) := by
  unfold Sort.heapSort; rw [hm, Nat.add_sub_cancel_left, hK0]
 rw [hd]; have hw1 : IntKind.i64.wrap ((b : Int) - (a : Int)) = (m : Int) := by rw [IntWalk.i64_in _ (by omega)]; omega
 have hmz : (b : Int) - (a : Int) = (m : Int) := by omega
 have HK0Z : Hid (((m : Int) - 1) / 2 = (K0 : Int)) := hid (by omega); have hm1 : (1 : Int) <= (m : Int) := by omega
 have hm2 : (0 : Int) <= (m : Int) - 1 := by omega
 have hmn : a + m <= n := by omega
 have hKm : K0 < m := by omega
 have HM := hid (And.intro hm hK0); clear hR hn hd hm hK0; go_enter Tryz.func116, Tryz.ntmps116; go_wp2; go_loopw [9] (fun i wr => ∃ (k : Nat) (dk : Array Int), k <= m /\ Down k i /\ SoR blk n r w dk wr /\ Sort.heapBuild ltInt m a k dk = Sort.heapBuild ltInt m a (K0 + 1) d) (fun i _ => (RowKit.intOf i + 1).toNat)
 case atStart => exact ⟨K0 + 1, d, by omega, .inr ⟨K0, rfl, by rw [HK0Z.out]⟩, SoR.refl HR.out HN.out, rfl⟩
 case round =>
  obtain ⟨k, dk, hkm, hD, hS, hE⟩ := hrel; have HE := hid hE; have HS := hid hS; clear hS hE
  rcases hD with ⟨rfl, rfl⟩ | ⟨j, rfl, rfl⟩
  . obtain ⟨wo, hwo⟩ : ∃ wo : World, wo = wr := ⟨_, rfl⟩
    clear hwo; clear wo; go_wp2; go_loopw [10] (fun i wr => ∃ (k : Nat) (dl : Array Int), k <= m /\ Down k i /\ SoR blk n r w dl wr /\ Sort.heapPop ltInt a k dl = Sort.heapPop ltInt a m dk) (fun i _ => (RowKit.intOf i + 1).toNat)
    case atStart => exact ⟨m, dk, Nat.le_refl _, Down.next m, HS.out, rfl⟩
    case round =>
     obtain ⟨k, dl, hkm, hD, hSl, hEl⟩ := hrel; have HEl := hid hEl; have HSl := hid hSl; clear hSl hEl
     rcases hD with ⟨rfl, rfl⟩ | ⟨j, rfl, rfl⟩
     . go_wp2
       go_end0; exact ⟨rfl, by rw [<- HE.out]; rw [show Sort.heapBuild ltInt m a 0 dk = dk from rfl, <- HEl.out]; exact HSl.out⟩
     have hjz : (0 : Int) <= (j : Int) := by omega
     have hjm : (j : Int) < (n : Int) := by omega
     have haz : (a : Int) < (n : Int) := by omega
     obtain ⟨f, hf⟩ : ∃ f, f = a + j := ⟨_, rfl⟩; have hw2 : IntKind.i64.wrap ((a : Int) + (j : Int)) = (f : Int) := by rw [IntWalk.i64_in _ (by omega)]; omega
     have hfn : (f : Int) < (n : Int) := by omega
     have c0 := HSl.out.2.1.cell a (by have := HSl.out.1; omega); have c1 := HSl.out.2.1.cell f (by have := HSl.out.1; omega); have hf0 := HSl.out.2.1.free a; have hf1 := HSl.out.2.1.free f; have hlj := HSl.out.2.1.lt; by_cases hj0 : j = 0
     . have hfa : f = a := by omega
       have HF := hid hf; have HJ0 := hid hj0; clear hf hj0; subst hfa; go_wp2
       go_region
       all_goals go_wp2_with (first | (go_at_call 144; refine (zh2 blk n cap 0 j f r (swp dl f f) _ (by exact (((HSl.out.drewN _).swap f f (by omega) (by omega)).2.1)) (by rw [Go.Sort.size_swp]; exact HSl.out.1) (by omega) hsz (by omega)).mono ?_; rintro e w' ⟨rfl, hS2⟩))
       all_goals go_roundw
       case rel => exact ⟨j, _, by omega, Down.next j, ((HSl.out.drewN _).swap f f (by omega) (by omega)).trans hS2, by rw [<- HEl.out, zfP, <- HF.out]⟩
       case measure => (simp [RowKit.intOf] <;> omega)
     have hfa : a ≠ f := by omega
     have hfa' : f ≠ a := by omega
     have HF := hid hf; clear hf hj0; go_wp2
     go_region
     all_goals go_wp2_with (first | (go_at_call 144; refine (zh2 blk n cap 0 j a r (swp dl a f) _ (by exact (((HSl.out.drewN _).swap a f (by omega) (by omega)).2.1)) (by rw [Go.Sort.size_swp]; exact HSl.out.1) (by omega) hsz (by omega)).mono ?_; rintro e w' ⟨rfl, hS2⟩))
     all_goals go_roundw
     case rel => exact ⟨j, _, by omega, Down.next j, ((HSl.out.drewN _).swap a f (by omega) (by omega)).trans hS2, by rw [<- HEl.out, zfP, <- HF.out]⟩
     case measure => (simp [RowKit.intOf] <;> omega)
  have hjz : (0 : Int) <= (j : Int) := by omega
  have hjm : (j : Int) < (n : Int) := by omega
  go_wp2_with (first | (go_at_call 144; refine (zh2 blk n cap j m a r dk _ (by exact HS.out.2.1) HS.out.1 (by omega) hsz (by omega)).mono ?_; rintro e w' ⟨rfl, hS2⟩)); go_roundw
  case rel => exact ⟨j, _, by omega, Down.next j, HS.out.trans hS2, by rw [<- HE.out, zg9]⟩
  case measure => (simp [RowKit.intOf] <;> omega)
theorem zjC (blk n cap a b : Nat) (r : List Value) (d : Array Int) (w : World) (hR : za9 w blk d r) (hn : d.size = n) (hab : a < b) (hb : b <= n) (hsz : n < 1000000000) :
 Calls Tryz.prog 119 #[.slice (some ⟨blk, 0, none⟩) n cap, .int .i64 a, .int .i64 b] w fun e w' => e = .returned (.tuple #[]) /\ ∃ d', Sort.PermIn a b d d' /\ SoR blk n r w d' w' := by
 have HR := hid hR; have HN := hid hn; have hsz1 : (n : Int) < 1000000000 := by omega
 have hb1 : (b : Int) <= n := by omega
 have hab1 : (a : Int) < b := by omega
 clear hR hn; go_enter Tryz.func119, Tryz.ntmps119; go_wp2; go_loopw [6, 7] (fun i j wr => ∃ (k l : Nat) (dk : Array Int), i = .int .i64 k /\ j = .int .i64 l /\ a <= k /\ l < b /\ k <= b /\ SoR blk n r w dk wr /\ Sort.PermIn a b d dk) (fun i j _ => (RowKit.intOf j + b - RowKit.intOf i).toNat)
 case atStart => exact ⟨a, b - 1, d, rfl, by congr 1; omega, Nat.le_refl _, by omega, by omega, SoR.refl HR.out HN.out, Go.Sort.permIn_refl _ _ _⟩
 case round =>
  obtain ⟨k, l, dk, rfl, rfl, hk, hl, hkb, hS, hP⟩ := hrel; have HP := hid hP; have HS := hid hS; have HN2 := HN.out; clear hS hP; by_cases hlt : k < l
  . have hz : (k : Int) < (l : Int) := by omega
    have hkn : (k : Int) < (n : Int) := by omega
    have hln : (l : Int) < (n : Int) := by omega
    have hne : k ≠ l := by omega
    have hne' : l ≠ k := by omega
    have c0 := HS.out.2.1.cell k (by have := HS.out.1; omega); have c1 := HS.out.2.1.cell l (by have := HS.out.1; omega); have hf0 := HS.out.2.1.free k; have hf1 := HS.out.2.1.free l; have hlj := HS.out.2.1.lt; clear HN2; go_wp2
    go_region
    all_goals go_wp2
    all_goals go_roundw
    case rel => exact ⟨k + 1, l - 1, swp dk k l, by go_num, by congr 1; omega, by omega, by omega, by omega, (HS.out.drewN _).swap k l (by omega) (by omega), Go.Sort.permIn_trans _ _ _ _ _ HP.out (Go.Sort.swp_permIn dk a b k l hk (by omega) (by omega) hl (by have := HS.out.1; omega))⟩
    case measure => (simp [RowKit.intOf] <;> omega)
  have hz : ¬ (k : Int) < (l : Int) := by omega
  go_wp2; go_end0; exact ⟨rfl, dk, HP.out, HS.out⟩
end
end Go.Proofs.YtghpmhllpaheiaaGreatDoor
