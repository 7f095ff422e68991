/-
  Part of the proof: Peek, U9, Take, Sign, Scalar, Scal2, ParseQ. No condition beyond those in the statements.
-/
import Derived.Lib.OthersKept
import Derived.Laws.BitsLemmas
import Derived.Test.YtghpmhllpaheiaaGreatDoorL00
import Derived.Test.YtghpmhllpaheiaaGreatDoorL01
import Derived.Test.YtghpmhllpaheiaaGreatDoorL02
set_option linter.unusedVariables false
set_option linter.unusedSimpArgs false
set_option maxRecDepth 100000
set_option maxHeartbeats 4000000
namespace Go.Proofs.YtghpmhllpaheiaaGreatDoor
open Go.RowKit Go.Lib
abbrev wrongV (e k : Nat) : Value := .iface 193 (.agg #[.int .i64 e, .int .i64 k])
abbrev zhq (e k : Nat) : Ending := .panicked [{ v := wrongV e k, recovered := false }]
theorem zaU (e k : Nat) (w : World) : Calls Tryz.prog 80 #[.int .i64 e, .int .i64 k] w fun r w' => r = zhq e k /\ w = w' := by
 go_enter Tryz.func80, Tryz.ntmps80; go_wp2; exact ⟨rfl, rfl, rfl⟩
def PAt (bp : Nat) (s : ByteArray) (p : Nat) (w : World) : Prop := w.heap[bp]? = some (.cells #[.string s, .int .i64 p] 196 (0, 0))
abbrev Glob : Nat := 4
abbrev Tabs (w : World) : Prop := Lib.Utf8Tabs 1 2 w
theorem zfl {w w' : World} (hT : Tabs w) (h : ∀ a : Addr, a.block < Glob -> w'.cell? a = w.cell? a) : Tabs w' := by
 obtain ⟨h1, h2⟩ := hT; refine ⟨fun c hc => ?_, fun i hi => ⟨?_, ?_⟩⟩
 . rw [h _ (by simp [Glob])]; exact h1 c hc
 . rw [h _ (by simp [Glob])]; exact (h2 i hi).1
 rw [h _ (by simp [Glob])]; exact (h2 i hi).2
theorem zaL {w w' : World} {B : Nat} (hT : Tabs w) (hb : Below B w w') (hg : Glob <= B) : Tabs w' :=
 zfl hT fun a ha => hb.cell (p := a) (by omega)
theorem zed (w : World) (s : ByteArray) : (w.drew.iter s 0).heap[w.heap.size]? = some (.stringIter s 0) /\ Below w.heap.size w (w.drew.iter s 0) :=
 ⟨World.iter_heap w.drew s 0, ((Below.refl _ w).drew).alloc (Nat.le_refl _) _⟩
theorem PAt.cells {bp : Nat} {s : ByteArray} {p : Nat} {w : World} (hp : PAt bp s p w) : w.cell? ⟨bp, 0, none⟩ = some (.string s) /\ w.cell? ⟨bp, 1, none⟩ = some (.int .i64 p) := by
 have c0 := zab w bp 0 _ _ _ hp; have c1 := zab w bp 1 _ _ _ hp; simp only [zLa, zLb, zLc] at c0 c1; exact ⟨c0, c1⟩
theorem peek_end (bp : Nat) (s : ByteArray) (p : Nat) (w : World) (hp : PAt bp s p w) (hs : s.size <= 1000) (he : p = s.size) :
 Calls Tryz.prog 98 #[.pointer (some ⟨bp, 0, none⟩)] w fun r w' => r = .returned (.int .i32 (-1)) /\ Below w.heap.size w w' := by
 obtain ⟨c0, c1⟩ := hp.cells; clear hp; subst he; obtain ⟨hk, hb⟩ := zed w ByteArray.empty; have hn := run_next_end_at (P := Tryz.prog) (w.drew.iter ByteArray.empty 0) w.heap.size ByteArray.empty 0 0 hk (by decide); clear hk; go_enter Tryz.func98, Tryz.ntmps98; go_wp2
 go_region
 go_wp2; generalize w.drew.iter ByteArray.empty 0 = wx at *; refine wp_loop_rounds 1 ?_; rw [rounds_succ]; go_wp2; go_ret; exact ⟨rfl, hb⟩
theorem get_ext (s : ByteArray) (p i : Nat) : (s.extract p s.size).get! i = s.get! (p + i) := by
 simp only [ByteArray.get!]; rw [getElem!_def, getElem!_def]; have e : (s.extract p s.size).data[i]? = s.data[p + i]? := by
  rw [ByteArray.data_extract, Array.getElem?_extract]; have hz : s.data.size = s.size := rfl; split
  . rfl
  rename_i h
  rw [Array.getElem?_eq_none (by omega)]
 rw [e]
theorem zcX (s : ByteArray) (p : Nat) : Utf8.decode (s.extract p s.size) 0 = Utf8.decode s p := by
 rw [decode_at, decode_at]; simp only [get_ext, ByteArray.size_extract, Nat.min_self, Nat.sub_zero, Nat.add_zero]
theorem peek_ok (bp : Nat) (s : ByteArray) (p : Nat) (w : World) (hp : PAt bp s p w) (hs : s.size <= 1000) (he : p < s.size) (hd : (Utf8.decode s p).1 ≠ 65533) :
 Calls Tryz.prog 98 #[.pointer (some ⟨bp, 0, none⟩)] w fun r w' => r = .returned (.int .i32 (Utf8.decode s p).1) /\ Below w.heap.size w w' := by
 obtain ⟨c0, c1⟩ := hp.cells; clear hp; obtain ⟨hk, hb⟩ := zed w (s.extract p s.size); have hn := run_next_any_at (P := Tryz.prog) (w.drew.iter (s.extract p s.size) 0) w.heap.size (s.extract p s.size) 0 0 hk (by simp; omega); have hb2 := below_iterAt hb (Nat.le_refl _) (s.extract p s.size) (0 + (Utf8.decode (s.extract p s.size) 0).2); rw [zcX, Nat.zero_add] at hn hb2; clear hk hb; have hne : (((Utf8.decode s p).1 : Int) == 65533) = false := by simp; omega
 go_enter Tryz.func98, Tryz.ntmps98; go_wp2
 go_region
 go_wp2; generalize w.drew.iter (s.extract p s.size) 0 = wx at *; refine wp_loop_rounds 1 ?_; rw [rounds_succ]; go_wp2; go_ret; exact ⟨rfl, hb2⟩
theorem peek_fffd (bp : Nat) (s : ByteArray) (p : Nat) (w : World) (hp : PAt bp s p w) (hT : Tabs w) (hg4 : Glob <= w.heap.size) (hs : s.size <= 1000) (he : p < s.size) (hd : (Utf8.decode s p).1 = 65533) (hd3 : (Utf8.decode s p).2 ≠ 1) :
 Calls Tryz.prog 98 #[.pointer (some ⟨bp, 0, none⟩)] w fun r w' => r = .returned (.int .i32 65533) /\ Below w.heap.size w w' := by
 obtain ⟨c0, c1⟩ := hp.cells; have hlt := zaa hp; clear hp; obtain ⟨hk, hb⟩ := zed w (s.extract p s.size); have hn := run_next_any_at (P := Tryz.prog) (w.drew.iter (s.extract p s.size) 0) w.heap.size (s.extract p s.size) 0 0 hk (by simp; omega); have hb2 := below_iterAt hb (Nat.le_refl _) (s.extract p s.size) (0 + (Utf8.decode (s.extract p s.size) 0).2); rw [zcX, Nat.zero_add] at hn hb2; rw [hd] at hn; have hg : Lib.decodeGo (s.extract p s.size) = (65533, (Utf8.decode s p).2) := by
  unfold Lib.decodeGo; rw [if_neg (by simp; omega), zcX, <- hd]
 clear hk hb hd; have hn1 : (((Utf8.decode s p).2 : Int) == 1) = false := by simp; omega
 generalize hnn : (Utf8.decode s p).2 = nn at *; clear hnn hd3; go_enter Tryz.func98, Tryz.ntmps98; go_wp2
 go_region
 go_wp2; generalize w.drew.iter (s.extract p s.size) 0 = wx at *; have d0 := (hb2.cell (p := ⟨bp, 0, none⟩) hlt).trans c0; have d1 := (hb2.cell (p := ⟨bp, 1, none⟩) hlt).trans c1; have hT2 := zaL hT hb2 hg4; clear c0 c1; refine wp_loop_rounds 1 ?_; rw [rounds_succ]; go_wp2; generalize wx.iterAt w.heap.size (s.extract p s.size) nn = wy at *; go_region_with (go_at_call 114; refine (Tryz.utf8_DecodeRuneInString _ _ ‹_›).mono ?_; rintro e w' ⟨rfl, hb3⟩)
 all_goals go_wp2
 all_goals go_ret
 all_goals exact ⟨rfl, hb2.drew.trans (hb3.mono hb2.size)⟩
theorem peek_ill (bp : Nat) (s : ByteArray) (p : Nat) (w : World) (hp : PAt bp s p w) (hT : Tabs w) (hg4 : Glob <= w.heap.size) (hs : s.size <= 1000) (he : p < s.size) (hd : (Utf8.decode s p).1 = 65533) (hd1 : (Utf8.decode s p).2 = 1) :
 Calls Tryz.prog 98 #[.pointer (some ⟨bp, 0, none⟩)] w fun r w' => r = zhq 2 p /\ Below w.heap.size w w' := by
 obtain ⟨c0, c1⟩ := hp.cells; have hlt := zaa hp; clear hp; obtain ⟨hk, hb⟩ := zed w (s.extract p s.size); have hn := run_next_any_at (P := Tryz.prog) (w.drew.iter (s.extract p s.size) 0) w.heap.size (s.extract p s.size) 0 0 hk (by simp; omega); have hb2 := below_iterAt hb (Nat.le_refl _) (s.extract p s.size) (0 + (Utf8.decode (s.extract p s.size) 0).2); rw [zcX, Nat.zero_add] at hn hb2; rw [hd] at hn; rw [hd1] at hn hb2; have hg : Lib.decodeGo (s.extract p s.size) = (65533, 1) := by
  unfold Lib.decodeGo; rw [if_neg (by simp; omega), zcX, <- hd, <- hd1]
 clear hk hb hd hd1; go_enter Tryz.func98, Tryz.ntmps98; go_wp2
 go_region
 go_wp2; generalize w.drew.iter (s.extract p s.size) 0 = wx at *; have d0 := (hb2.cell (p := ⟨bp, 0, none⟩) hlt).trans c0; have d1 := (hb2.cell (p := ⟨bp, 1, none⟩) hlt).trans c1; have hT2 := zaL hT hb2 hg4; clear c0 c1; refine wp_loop_rounds 1 ?_; rw [rounds_succ]; go_wp2; have hlt2 : bp < (wx.iterAt w.heap.size (s.extract p s.size) 1).heap.size := zLd hlt hb2.size; generalize wx.iterAt w.heap.size (s.extract p s.size) 1 = wy at *
 go_region_with (go_at_call 114; refine (Tryz.utf8_DecodeRuneInString _ _ ‹_›).mono ?_; rintro e w' ⟨rfl, hb3⟩; have f1 := (hb3.cell (p := ⟨bp, 1, none⟩) hlt2).trans d1)
 all_goals (go_wp2_with (go_at_call 80; refine (zaU 2 p _).mono ?_; rintro e w' ⟨rfl, rfl⟩))
 all_goals exact ⟨rfl, rfl, hb2.drew.trans (hb3.mono hb2.size)⟩
theorem zfA (s : ByteArray) (p : Nat) (he : p < s.size) (h : ¬ ((Utf8.decode s p).1 = 65533 /\ (Utf8.decode s p).2 = 1)) :
 runeLen (Utf8.decode s p).1 = (Utf8.decode s p).2 /\ p + (Utf8.decode s p).2 <= s.size /\ 1 <= (Utf8.decode s p).2 /\ (Utf8.decode s p).2 <= 4 := by
 obtain ⟨x, k, hx, hh⟩ := zcd s p he h; rw [hx]; unfold runeLen
 rcases hh with hh | hh | hh | hh <;> (refine ⟨?_, ?_, ?_, ?_⟩) <;> (try simp only) <;> (try omega) <;> (repeat' split) <;> omega
structure PS (bp : Nat) (s : ByteArray) (p : Nat) (w : World) : Prop where
 at' : PAt bp s p w
 tabs : Tabs w
 glob : Glob <= bp
 size : s.size <= 1000
 le : p <= s.size
theorem PS.lt {bp : Nat} {s : ByteArray} {p : Nat} {w : World} (h : PS bp s p w) : bp < w.heap.size := zaa h.at'
theorem PS.next {bp : Nat} {s : ByteArray} {p q : Nat} {w w' : World} (h : PS bp s p w) (hg : w.grownBy w' (some bp)) (ha : PAt bp s q w') (hq : q <= s.size) : PS bp s q w' :=
 ⟨ha, zfl h.tabs fun a hx => World.cell?_of_block (w := w) (hg.block a.block (by have := h.lt; have := h.glob; omega) (by simp; have := h.glob; omega)), h.glob, h.size, hq⟩
theorem PS.below {bp : Nat} {s : ByteArray} {p : Nat} {w w' : World} (h : PS bp s p w) (hb : Below w.heap.size w w') : PS bp s p w' :=
 h.next (zah hb _) ((hb.block bp h.lt).trans h.at') h.le
theorem zfc {s : ByteArray} {p : Nat} {c : Int} (h : zbp s p = .ok c) : (p = s.size \/ s.size < p) /\ c = -1 \/ p < s.size /\ ¬ ((Utf8.decode s p).1 = 65533 /\ (Utf8.decode s p).2 = 1) /\ c = (Utf8.decode s p).1 := by
 unfold zbp at h; split at h
 . split at h
   . cases h
   cases h; exact .inr ⟨by assumption, by assumption, rfl⟩
 cases h; exact .inl ⟨by omega, rfl⟩
theorem zbH (bp : Nat) (s : ByteArray) (p : Nat) (w : World) (c : Int) (h : PS bp s p w) (hc : zbp s p = .ok c) :
 Calls Tryz.prog 98 #[.pointer (some ⟨bp, 0, none⟩)] w fun r w' => r = .returned (.int .i32 c) /\ Below w.heap.size w w' := by
 have hg : Glob <= w.heap.size := by have := h.lt; have := h.glob; omega
 rcases zfc hc with ⟨h1, rfl⟩ | ⟨h1, h2, rfl⟩
 . exact peek_end bp s p w h.at' h.size (by have := h.le; omega)
 by_cases h3 : (Utf8.decode s p).1 = 65533
 . refine (peek_fffd bp s p w h.at' h.tabs hg h.size h1 h3 (fun h4 => h2 ⟨h3, h4⟩)).mono fun r w' hr => ?_
   rw [h3]; exact hr
 exact peek_ok bp s p w h.at' h.size h1 h3
theorem zcy (bp : Nat) (s : ByteArray) (p : Nat) (w : World) (e : Err) (h : PS bp s p w) (hc : zbp s p = .error e) :
 Calls Tryz.prog 98 #[.pointer (some ⟨bp, 0, none⟩)] w fun r w' => r = zhq e.1 e.2 /\ Below w.heap.size w w' := by
 have hg : Glob <= w.heap.size := by have := h.lt; have := h.glob; omega
 unfold zbp at hc; split at hc
 . split at hc
   . rename_i h1 h2
     cases hc; exact peek_ill bp s p w h.at' h.tabs hg h.size h1 h2.1 h2.2
   cases hc
 cases hc
end Go.Proofs.YtghpmhllpaheiaaGreatDoor
namespace Go.Proofs.YtghpmhllpaheiaaGreatDoor
open Go.RowKit
structure Hd3 (w : World) (bb off n b0 b1 b2 : Nat) : Prop where
 c0 : w.cell? ⟨bb, off, none⟩ = some (.int .u8 b0)
 c1 : 1 < n -> w.cell? ⟨bb, off + 1, none⟩ = some (.int .u8 b1)
 c2 : 2 < n -> w.cell? ⟨bb, off + 2, none⟩ = some (.int .u8 b2)
 l0 : b0 < 256
 l1 : b1 < 256
 l2 : b2 < 256
theorem zaH {B : Nat} {a b : World} (h : Below B a b) (n : Nat) : Below B a (b.drewN n) := ⟨h.os, h.tape, h.output, h.size, h.block⟩
theorem zgn {w : World} {a : Addr} {v : Value} (h : w.cell? a = some v) : a.block < w.heap.size := by
 rcases Nat.lt_or_ge a.block w.heap.size with h2 | h2
 . exact h2
 rw [World.cell?, Array.getElem?_eq_none h2] at h
 cases h
theorem zhs (a : Option Addr) (cap : Nat) (w : World) : Calls Tryz.prog 38 #[.slice a 0 cap] w fun e w' => e = .returned (.bool false) /\ Below w.heap.size w w' := by
 go_enter Tryz.func38, Tryz.ntmps38; go_wp2; go_ret; exact ⟨rfl, Below.refl _ _⟩
theorem ziu (bb off n cap b0 b1 b2 : Nat) (w : World) (hT : Tabs w) (hb : Hd3 w bb off n b0 b1 b2) (hn : 0 < n) (hsz : n < 1000000) :
 Calls Tryz.prog 38 #[.slice (some ⟨bb, off, none⟩) n cap] w fun e w' => e = .returned (.bool (zbs n b0 b1 b2)) /\ Below w.heap.size w w' := by
 obtain ⟨x, hx⟩ : ∃ x, x = Lib.firstT b0 := ⟨_, rfl⟩; have hcx : w.cell? ⟨1, b0, none⟩ = some (.int .u8 x) := by rw [hx]; exact hT.1 b0 hb.l0
 have hx256 : x < 128 \/ x = 240 \/ x = 241 := by
  rw [hx]; rcases zbu b0 hb.l0 with h | h | h | h | h | h | h | h | h | h <;> omega
 have h7 : bits .and .u8 (x : Int) 7 = (x : Int) % 8 := u8_and7 _ (by omega) (by omega); have hnz : (0 : Int) < (n : Int) := by omega
 have hne : ((n : Int) == 0) = false := by simp; omega
 have hfull : zbs n b0 b1 b2 = (decide (x % 8 <= n) || ((decide (1 < n) && (decide (b1 < Lib.accLo (x / 16)) || decide (Lib.accHi (x / 16) < b1))) || (decide (2 < n) && (decide (b2 < 128) || decide (191 < b2))))) := by
  unfold zbs; rw [<- hx]; simp [hn]
 have HF := Lib.hid hfull; have hb0z : (b0 : Int) < 256 := by have := hb.l0; omega
 have c0 := hb.c0; have HB := Lib.hid hb; have HT := Lib.hid hT; have HX := Lib.hid hx; clear hb hT hx hfull; generalize zbs n b0 b1 b2 = FN at *; by_cases hge : x % 8 <= n
 . have hz : (x : Int) % 8 <= (n : Int) := by omega
   have hFN : FN = true := by rw [HF.out]; simp [hge]
   subst hFN; go_enter Tryz.func38, Tryz.ntmps38; go_wp2; go_ret; exact ⟨rfl, Below.refl _ _⟩
 have hz : ¬ (x : Int) % 8 <= (n : Int) := by omega
 obtain ⟨i, hi⟩ : ∃ i, i = x / 16 := ⟨_, rfl⟩; have hi16 : (x : Int) / 16 = (i : Int) := by omega
 have hil : i < 16 := by omega
 have hilz : (i : Int) < 16 := by omega
 obtain ⟨a0, a1⟩ := HT.out.2 i hil; obtain ⟨lo, hlo⟩ : ∃ lo, lo = Lib.accLo i := ⟨_, rfl⟩; obtain ⟨hh, hhh⟩ : ∃ hh, hh = Lib.accHi i := ⟨_, rfl⟩; have hlb : lo < 256 /\ hh < 256 := by
  rw [hlo, hhh]; unfold Lib.accLo Lib.accHi; constructor <;> (repeat' split) <;> omega
 rw [<- hlo, Nat.mul_comm] at a0; rw [<- hhh, Nat.mul_comm] at a1; have hF2 : FN = ((decide (1 < n) && (decide (b1 < lo) || decide (hh < b1))) || (decide (2 < n) && (decide (b2 < 128) || decide (191 < b2)))) := by
  rw [HF.out, <- hi, <- hlo, <- hhh]; simp [hge]
 have HF2 := Lib.hid hF2; have hbn := HB.out; have hn3 : n <= 3 := by
  rcases zbu b0 hbn.l0 with h | h | h | h | h | h | h | h | h | h <;> (have := HX.out; omega)
 have c1 := hbn.c1; have c2 := hbn.c2; have hbnd : b1 < 256 /\ b2 < 256 := ⟨hbn.l1, hbn.l2⟩; have g2 := zgn a0; have gb := zgn c0; clear hi hlo hhh hF2 hbn hx256 hge; have hn123 : n = 1 \/ n = 2 \/ n = 3 := by omega
 rcases hn123 with rfl | rfl | rfl
 . have hz1 : ¬ (x : Int) % 8 <= 1 := by omega
   clear hz hne hnz hn hsz; go_enter Tryz.func38, Tryz.ntmps38; go_wp2; go_quiet (fail); go_wp2; go_ret; have hFN : FN = false := by rw [HF2.out]; simp
   exact ⟨congrArg (fun b => Ending.returned (Value.bool b)) hFN.symm, zaH ((Below.refl _ w).alloc (Nat.le_refl _) _) _⟩
 . have hz1 : ¬ (x : Int) % 8 <= 2 := by omega
   have c1' := c1 (by omega); clear hz hne hnz hn hsz c1 c2; by_cases q1 : b1 < lo
   . have d1 : decide ((b1 : Int) < (lo : Int)) = true := by simp; omega
     have e1 : decide (b1 < lo) = true := by simp; omega
     have z1 : (b1 : Int) < (lo : Int) := by omega
     have hFN : FN = true := by rw [HF2.out]; simp [q1]
     subst hFN; clear q1; go_enter Tryz.func38, Tryz.ntmps38; go_wp2; go_quiet (fail); go_wp2; go_ret; exact ⟨rfl, zaH ((Below.refl _ w).alloc (Nat.le_refl _) _) _⟩
   have d1 : decide ((b1 : Int) < (lo : Int)) = false := by simp; omega
   have e1 : decide (b1 < lo) = false := by simp; omega
   by_cases q2 : hh < b1
   . have d2 : decide ((hh : Int) < (b1 : Int)) = true := by simp; omega
     have e2 : decide (hh < b1) = true := by simp; omega
     have z2 : (hh : Int) < (b1 : Int) := by omega
     have hFN : FN = true := by rw [HF2.out]; simp [q2]
     subst hFN; clear q1 q2; go_enter Tryz.func38, Tryz.ntmps38; go_wp2; go_quiet (fail); go_wp2; go_ret; exact ⟨rfl, zaH ((Below.refl _ w).alloc (Nat.le_refl _) _) _⟩
   have d2 : decide ((hh : Int) < (b1 : Int)) = false := by simp; omega
   have e2 : decide (hh < b1) = false := by simp; omega
   have hFN : FN = false := by rw [HF2.out]; simp [q1, q2]
   subst hFN; clear q1 q2; go_enter Tryz.func38, Tryz.ntmps38; go_wp2; go_quiet (fail); go_wp2; go_ret; exact ⟨rfl, zaH ((Below.refl _ w).alloc (Nat.le_refl _) _) _⟩
 have hz1 : ¬ (x : Int) % 8 <= 3 := by omega
 have c1' := c1 (by omega); have c2' := c2 (by omega); clear hz hne hnz hn hsz c1 c2; by_cases q1 : b1 < lo
 . have d1 : decide ((b1 : Int) < (lo : Int)) = true := by simp; omega
   have e1 : decide (b1 < lo) = true := by simp; omega
   have z1 : (b1 : Int) < (lo : Int) := by omega
   have hFN : FN = true := by rw [HF2.out]; simp [q1]
   subst hFN; clear q1; go_enter Tryz.func38, Tryz.ntmps38; go_wp2; go_quiet (fail); go_wp2; go_ret; exact ⟨rfl, zaH ((Below.refl _ w).alloc (Nat.le_refl _) _) _⟩
 have d1 : decide ((b1 : Int) < (lo : Int)) = false := by simp; omega
 have e1 : decide (b1 < lo) = false := by simp; omega
 by_cases q2 : hh < b1
 . have d2 : decide ((hh : Int) < (b1 : Int)) = true := by simp; omega
   have e2 : decide (hh < b1) = true := by simp; omega
   have z2 : (hh : Int) < (b1 : Int) := by omega
   have hFN : FN = true := by rw [HF2.out]; simp [q2]
   subst hFN; clear q1 q2; go_enter Tryz.func38, Tryz.ntmps38; go_wp2; go_quiet (fail); go_wp2; go_ret; exact ⟨rfl, zaH ((Below.refl _ w).alloc (Nat.le_refl _) _) _⟩
 have d2 : decide ((hh : Int) < (b1 : Int)) = false := by simp; omega
 have e2 : decide (hh < b1) = false := by simp; omega
 by_cases q3 : b2 < 128
 . have d3 : decide ((b2 : Int) < 128) = true := by simp; omega
   have e3 : decide (b2 < 128) = true := by simp; omega
   have z3 : (b2 : Int) < 128 := by omega
   have hFN : FN = true := by rw [HF2.out]; simp [q3]
   subst hFN; clear q1 q2 q3; go_enter Tryz.func38, Tryz.ntmps38; go_wp2; go_quiet (fail); go_wp2; go_ret; exact ⟨rfl, zaH ((Below.refl _ w).alloc (Nat.le_refl _) _) _⟩
 have d3 : decide ((b2 : Int) < 128) = false := by simp; omega
 have e3 : decide (b2 < 128) = false := by simp; omega
 by_cases q4 : 191 < b2
 . have d4 : decide ((191 : Int) < (b2 : Int)) = true := by simp; omega
   have e4 : decide (191 < b2) = true := by simp; omega
   have z4 : (191 : Int) < (b2 : Int) := by omega
   have hFN : FN = true := by rw [HF2.out]; simp [q4]
   subst hFN; clear q1 q2 q3 q4; go_enter Tryz.func38, Tryz.ntmps38; go_wp2; go_quiet (fail); go_wp2; go_ret; exact ⟨rfl, zaH ((Below.refl _ w).alloc (Nat.le_refl _) _) _⟩
 have d4 : decide ((191 : Int) < (b2 : Int)) = false := by simp; omega
 have e4 : decide (191 < b2) = false := by simp; omega
 have hFN : FN = false := by rw [HF2.out]; simp [q1, q2, q3, q4]
 subst hFN; clear q1 q2 q3 q4; go_enter Tryz.func38, Tryz.ntmps38; go_wp2; go_quiet (fail); go_wp2; go_ret; exact ⟨rfl, zaH ((Below.refl _ w).alloc (Nat.le_refl _) _) _⟩
end Go.Proofs.YtghpmhllpaheiaaGreatDoor
namespace Go.Proofs.YtghpmhllpaheiaaGreatDoor
open Go.RowKit Go.Lib
theorem PAt.set {bp : Nat} {s : ByteArray} {p : Nat} {w : World} (h : PAt bp s p w) (q : Nat) : PAt bp s q (w.setCell ⟨bp, 1, none⟩ (.int .i64 q)) :=
 zac w bp 1 _ _ _ _ h
theorem zag (w : World) (bp o : Nat) (v : Value) : w.grownBy (w.setCell ⟨bp, o, none⟩ v) (some bp) :=
 ⟨rfl, rfl, rfl, by simp [World.setCell], fun k _ hr => Below.heap_setCell _ _ _ _ (fun e => hr (by rw [e]))⟩
theorem zho {a b : World} {row : Option Nat} (h : a.grownBy b row) : a.grownBy b.drew row := ⟨h.os, h.tape, h.output, h.size, h.block⟩
theorem take_end (bp : Nat) (s : ByteArray) (p : Nat) (w : World) (h : PS bp s p w) (hc : zem s p = .ok (-1, p)) (hk : zbp s p = .ok (-1)) :
 Calls Tryz.prog 99 #[.pointer (some ⟨bp, 0, none⟩)] w fun r w' => r = .returned (.int .i32 (-1)) /\ PS bp s p w' /\ w.grownBy w' (some bp) := by
 have hP := zbH bp s p w _ h hk; have H := hid h; clear h hc hk; go_enter Tryz.func99, Tryz.ntmps99; go_wp2_with (go_at_call 98; refine hP.mono ?_; rintro e w' ⟨rfl, hb⟩); go_ret; exact ⟨rfl, H.out.below hb, zah hb _⟩
theorem take_some (bp : Nat) (s : ByteArray) (p : Nat) (w : World) (c : Int) (n : Nat) (h : PS bp s p w) (hk : zbp s p = .ok c) (hc1 : 0 <= c) (hn : runeLen c = n) (hn4 : n <= 4) (hpn : p + n <= s.size) :
 Calls Tryz.prog 99 #[.pointer (some ⟨bp, 0, none⟩)] w fun r w' => r = .returned (.int .i32 c) /\ PS bp s (p + n) w' /\ w.grownBy w' (some bp) := by
 have hP := zbH bp s p w _ h hk; have hL := fun w => zjR c w; rw [hn] at hL; have H := hid h; have Hs := h.size; have hpz : (p : Int) <= 1000 := by omega
 have hnz : (n : Int) <= 4 := by omega
 have hne : (c != -1) = true := by simp; omega
 clear h hn hk; go_enter Tryz.func99, Tryz.ntmps99; go_wp2_with (go_at_call 98; refine hP.mono ?_; rintro e w' ⟨rfl, hb⟩); have h1 := H.out.below hb; have H1 := hid h1; obtain ⟨c0, c1⟩ := h1.at'.cells; have f1 := zae w' bp 1 _ _ h1.at'; clear h1; have hw : IntKind.i64.wrap ((p : Int) + (n : Int)) = ((p + n : Nat) : Int) := by rw [IntWalk.i64_in _ (by omega)]; omega
 go_region_with (go_at_call 75; refine (hL _).mono ?_; rintro e w2 ⟨rfl, rfl⟩)
 all_goals go_wp2
 all_goals go_ret
 all_goals (
  have h2 : PS bp s (p + n) (w'.setCell ⟨bp, 1, none⟩ (.int .i64 ((p + n : Nat) : Int))).drew := H1.out.next (zho (zag w' bp 1 _)) (H1.out.at'.set (p + n)) hpn; exact ⟨rfl, h2, zad (zah hb _) (zho (zag w' bp 1 _))⟩)
theorem zfY {s : ByteArray} {p : Nat} {c : Int} {q : Nat} (h : zem s p = .ok (c, q)) : zbp s p = .ok c /\ q = if c = -1 then p else p + (Utf8.decode s p).2 := by
 unfold zem at h; split at h
 . cases h
 cases h; exact ⟨by assumption, rfl⟩
theorem zcM (bp : Nat) (s : ByteArray) (p : Nat) (w : World) (c : Int) (q : Nat) (h : PS bp s p w) (hc : zem s p = .ok (c, q)) :
 Calls Tryz.prog 99 #[.pointer (some ⟨bp, 0, none⟩)] w fun r w' => r = .returned (.int .i32 c) /\ PS bp s q w' /\ w.grownBy w' (some bp) := by
 obtain ⟨hk, hq⟩ := zfY hc
 rcases zfc hk with ⟨h1, rfl⟩ | ⟨h1, h2, rfl⟩
 . rw [if_pos rfl] at hq; subst hq
   exact take_end bp s q w h hc hk
 rw [if_neg (by omega)] at hq; subst hq
 obtain ⟨l1, l2, l3, l4⟩ := zfA s p h1 h2; exact take_some bp s p w _ _ h hk (by omega) l1 l4 l2
theorem take_err (bp : Nat) (s : ByteArray) (p : Nat) (w : World) (e : Err) (h : PS bp s p w) (hc : zem s p = .error e) :
 Calls Tryz.prog 99 #[.pointer (some ⟨bp, 0, none⟩)] w fun r w' => r = zhq e.1 e.2 /\ Below w.heap.size w w' := by
 have hk : zbp s p = .error e := by
  unfold zem at hc; split at hc
  . cases hc; assumption
  cases hc
 have hP := zcy bp s p w _ h hk; clear h hc hk; go_enter Tryz.func99, Tryz.ntmps99; go_wp2_with (go_at_call 98; refine hP.mono ?_; rintro e w' ⟨rfl, hb⟩); exact ⟨rfl, rfl, hb⟩
end Go.Proofs.YtghpmhllpaheiaaGreatDoor
namespace Go.Proofs.YtghpmhllpaheiaaGreatDoor
open Go.RowKit Go.Lib
theorem zdE (s : ByteArray) (p : Nat) (h : p < s.size) : ((s[p]'h).toNat : Int) = byt s p := by
 have e : s.get! p = s[p]'h := by
  simp [ByteArray.get!, getElem!_pos, h]; rfl
 unfold byt; rw [e]
theorem PS.inc {bp : Nat} {s : ByteArray} {p : Nat} {w : World} (h : PS bp s p w) (hq : p + 1 <= s.size) : PS bp s (p + 1) (w.setCell ⟨bp, 1, none⟩ (.int .i64 ((p : Int) + 1))) := by
 have e : ((p : Int) + 1) = ((p + 1 : Nat) : Int) := by omega
 rw [e]; exact h.next (zag w bp 1 _) (h.at'.set (p + 1)) hq
theorem PS.drewN {bp : Nat} {s : ByteArray} {p : Nat} {w : World} (h : PS bp s p w) (n : Nat) : PS bp s p (w.drewN n) :=
 h.next ⟨rfl, rfl, rfl, Nat.le_refl _, fun _ _ _ => rfl⟩ h.at' h.le
theorem zal {a b : World} {row : Option Nat} (h : a.grownBy b row) (n : Nat) : a.grownBy (b.drewN n) row := ⟨h.os, h.tape, h.output, h.size, h.block⟩
theorem _root_.Go.World.grownBy.set {a b : World} {bp : Nat} (h : a.grownBy b (some bp)) (o : Nat) (v : Value) : a.grownBy (b.setCell ⟨bp, o, none⟩ v) (some bp) := zad h (zag b bp o v)
theorem zhV (bp : Nat) (s : ByteArray) (p c : Nat) (w : World) (h : PS bp s p w) (hp : p < s.size) (hc : byt s p = c) :
 Calls Tryz.prog 164 #[.pointer (some ⟨bp, 0, none⟩), .int .u8 c] w fun r w' => r = .returned (.bool true) /\ PS bp s (p + 1) w' /\ w.grownBy w' (some bp) := by
 obtain ⟨c0, c1⟩ := h.at'.cells; have f1 := zae w bp 1 _ _ h.at'; have H := hid h; have hs := h.size; have hb := zdE s p hp; rw [hc] at hb; have hz : (p : Int) < (s.size : Int) := by omega
 clear h hc; have hw : IntKind.i64.wrap ((p : Int) + 1) = (p : Int) + 1 := IntWalk.i64_in _ (by omega); go_enter Tryz.func164, Tryz.ntmps164; go_wp2; go_quiet (fail); go_wp2; go_ret; exact ⟨rfl, (H.out.drewN nq).inc hp, (zal (zaZ w (some bp)) nq).set 1 _⟩
theorem sign_no (bp : Nat) (s : ByteArray) (p c : Nat) (w : World) (h : PS bp s p w) (hc : p < s.size -> byt s p ≠ c) :
 Calls Tryz.prog 164 #[.pointer (some ⟨bp, 0, none⟩), .int .u8 c] w fun r w' => r = .returned (.bool false) /\ PS bp s p w' /\ w.grownBy w' (some bp) := by
 obtain ⟨c0, c1⟩ := h.at'.cells; have H := hid h; have hs := h.size; clear h; by_cases hp : p < s.size
 . have hb := zdE s p hp
   have hne : ((byt s p : Int) == (c : Int)) = false := by have := hc hp; simp; omega
   have hz : (p : Int) < (s.size : Int) := by omega
   clear hc; go_enter Tryz.func164, Tryz.ntmps164; go_wp2; go_quiet (fail); go_wp2; go_ret; exact ⟨rfl, H.out.drewN nq, zal (zaZ w _) nq⟩
 have hd : decide ((p : Int) < (s.size : Int)) = false := by simp; omega
 clear hc; go_enter Tryz.func164, Tryz.ntmps164; go_wp2; go_quiet (fail); go_wp2; go_ret; exact ⟨rfl, H.out.drewN nq, zal (zaZ w _) nq⟩
theorem zgH {s : ByteArray} {p c : Nat} (h : isB s p c = true) : p < s.size /\ byt s p = c := by
 unfold isB at h; simpa using h
theorem isB_no {s : ByteArray} {p c : Nat} (h : isB s p c = false) : p < s.size -> byt s p ≠ c := by
 unfold isB at h; simpa using h
theorem zhM (bp : Nat) (s : ByteArray) (p c : Nat) (w : World) (h : PS bp s p w) :
 Calls Tryz.prog 164 #[.pointer (some ⟨bp, 0, none⟩), .int .u8 c] w fun r w' => r = .returned (.bool (isB s p c)) /\ PS bp s (if isB s p c then p + 1 else p) w' /\ w.grownBy w' (some bp) := by
 cases hx : isB s p c with
 | true => exact zhV bp s p c w h (zgH hx).1 (zgH hx).2
 | false => exact sign_no bp s p c w h (isB_no hx)
def Out {α : Type} (bp : Nat) (s : ByteArray) (w : World) (V : α -> Value -> World -> Prop) (x : Except Err (α × Nat)) (r : Ending) (w' : World) : Prop :=
 match x with
 | .ok (a, q) => ∃ v, r = .returned v /\ V a v w' /\ PS bp s q w' /\ w.grownBy w' (some bp)
 | .error e => r = zhq e.1 e.2 /\ w.grownBy w' (some bp)
theorem zdA (bf k : Nat) (w : World) (hf : w.cell? ⟨bf, 0, none⟩ = some (.int .i64 k)) :
 Calls Tryz.prog 162 #[.pointer (some ⟨bf, 0, none⟩)] w fun r w' => r = zhq 4 k /\ w = w' := by
 go_enter Tryz.func162, Tryz.ntmps162; go_wp2_with (go_at_call 80; refine (zaU 4 k _).mono ?_; rintro e w' ⟨rfl, rfl⟩); exact ⟨rfl, rfl, rfl⟩
def valN (s : ByteArray) (p : Nat) : Nat -> Nat
 | 0 => 0
 | 1 => byt s p - 48
 | _ => 10 * (byt s p - 48) + (byt s (p + 1) - 48)
theorem dig_yes {s : ByteArray} {p : Nat} (h : dig s p = true) : p < s.size /\ 48 <= byt s p /\ byt s p <= 57 := by
 unfold dig at h; simpa using h
theorem dig_of {s : ByteArray} {p : Nat} (h1 : p < s.size) (h2 : 48 <= byt s p) (h3 : byt s p <= 57) : dig s p = true := by
 unfold dig; simp [h1, h2, h3]
theorem dig_no {s : ByteArray} {p : Nat} (h : ¬ (p < s.size /\ 48 <= byt s p /\ byt s p <= 57)) : dig s p = false := by
 unfold dig; simp; omega
theorem zew {s : ByteArray} {p k j : Nat} (hj : j <= 2) (hd : ∀ i, i < j -> dig s (p + i) = true) (hn : dig s (p + j) = false) :
 zbK s p k = if j = 0 then .error (4, k) else .ok (valN s p j, p + j) := by
 unfold zbK
 rcases (by omega : j = 0 \/ j = 1 \/ j = 2) with rfl | rfl | rfl
 . have hn : dig s p = false := hn
   rw [if_neg (by rw [hn]; decide), if_pos rfl]
 . have h0 : dig s p = true := hd 0 (by omega)
   rw [if_pos h0, if_neg (by rw [hn]; decide), if_neg (by decide)]; rfl
 have h0 : dig s p = true := hd 0 (by omega)
 have h1 : dig s (p + 1) = true := hd 1 (by omega); rw [if_pos h0, if_pos h1, if_neg (by rw [hn]; decide), if_neg (by decide)]; rfl
theorem zjD {s : ByteArray} {p k : Nat} (hd : ∀ i, i < 3 -> dig s (p + i) = true) : zbK s p k = .error (4, k) := by
 have h0 : dig s p = true := hd 0 (by omega); have h1 : dig s (p + 1) = true := hd 1 (by omega); have h2 : dig s (p + 2) = true := hd 2 (by omega); unfold zbK; rw [if_pos h0, if_pos h1, if_pos h2]
theorem PS.cells {bp : Nat} {s : ByteArray} {p : Nat} {w : World} (h : PS bp s p w) : w.cell? ⟨bp, 0, none⟩ = some (.string s) /\ w.cell? ⟨bp, 1, none⟩ = some (.int .i64 p) /\ w.frozen? ⟨bp, 1, none⟩ = false :=
 ⟨h.at'.cells.1, h.at'.cells.2, zae w bp 1 _ _ h.at'⟩
theorem PS.set {bp : Nat} {s : ByteArray} {p : Nat} {w : World} (h : PS bp s p w) (q : Nat) (hq : q <= s.size) (z : Int) (hz : z = q) : PS bp s q (w.setCell ⟨bp, 1, none⟩ (.int .i64 z)) := by
 subst hz; exact h.next (zag w bp 1 _) (h.at'.set q) hq
theorem valN_le (s : ByteArray) (p j : Nat) : valN s p j <= 10000 := by
 have h1 := zbR s p; have h2 := zbR s (p + 1); unfold valN; generalize byt s p = a at *; generalize byt s (p + 1) = b at *; split <;> omega
theorem valN_step (s : ByteArray) (p j : Nat) (hj : j <= 1) : valN s p (j + 1) = 10 * valN s p j + (byt s (p + j) - 48) := by
 rcases (by omega : j = 0 \/ j = 1) with rfl | rfl
 . unfold valN; simp
 unfold valN; simp
theorem zeg (bp bf : Nat) (s : ByteArray) (p k : Nat) (w : World) (h : PS bp s p w) (hf : w.cell? ⟨bf, 0, none⟩ = some (.int .i64 k)) (hne : bf ≠ bp) :
 Calls Tryz.prog 163 #[.pointer (some ⟨bp, 0, none⟩), .func (.func 162) #[] #[.pointer (some ⟨bf, 0, none⟩)]] w
  (Out bp s w (fun n v _ => v = .int .i64 (n : Nat)) (zbK s p k)) := by
 obtain ⟨c0, c1, f1⟩ := h.cells; have H := hid h; have hs := h.size; have hp := h.le; clear h; go_enter Tryz.func163, Tryz.ntmps163; go_wp2; go_quiet (fail); go_wp2; go_loopg [5] 3 (fun g n wr => ∃ j : Nat, j + g = 3 /\ j <= 2 /\ n = .int .i64 (valN s p j) /\ (∀ i, i < j -> dig s (p + i) = true) /\ PS bp s (p + j) wr /\ w.grownBy wr (some bp))
 case atStart => exact ⟨0, by omega, by omega, rfl, fun i hi => by omega, H.out.drewN nq, zal (zaZ w _) nq⟩
 case round =>
  obtain ⟨j, hjg, hj, rfl, hd, hps, hgr⟩ := hrel; have hvb := valN_le s p j; generalize hqe : p + j = q at *; have HQ := hid hqe; generalize hve : valN s p j = v at *; have HV := hid hve; clear hqe hve; obtain ⟨d0, d1, g1⟩ := hps.cells; have hle := hps.le; have HP := hid hps; have HD := hid hd; have hfr : wr.cell? ⟨bf, 0, none⟩ = some (.int .i64 k) := hgr.cell hf (by simp; exact hne); have HG := hid hgr; clear hps hd hgr c0 c1 f1 hf; have hpq : (p : Int) <= (q : Int) := by have := HQ.out; omega
  by_cases hlt : q < s.size
  . have hz : (q : Int) < (s.size : Int) := by omega
    have hb := zdE s q hlt; have hbl := zbR s q; by_cases h48 : 48 <= byt s q
    . have hz1 : (48 : Int) <= (byt s q : Int) := by omega
      by_cases h57 : byt s q <= 57
      . have hz2 : (byt s q : Int) <= 57 := by omega
        have hw : IntKind.i64.wrap ((q : Int) + 1) = (q : Int) + 1 := IntWalk.i64_in _ (by omega); have hdq : dig s q = true := dig_of hlt h48 h57; have hd' : ∀ i, i < j + 1 -> dig s (p + i) = true := fun i hi => by
         by_cases e : i = j
         . rw [e, HQ.out]; exact hdq
         exact HD.out i (by omega)
        have HD' := hid hd'; clear hd' hdq; by_cases hj2 : j = 2
        . have hq2 : decide ((2 : Int) < (q : Int) + 1 - (p : Int)) = true := by have := HQ.out; simp; omega
          have hx : zbK s p k = .error (4, k) := zjD (fun i hi => HD'.out i (by omega)); have HX := hid hx; have hfs : ∀ n, ((wr.drewN n).setCell ⟨bp, 1, none⟩ (.int .i64 ((q : Int) + 1))).cell? ⟨bf, 0, none⟩ = some (.int .i64 k) := fun n => (zal (zaZ wr (some bp)) n |>.set 1 _).cell hfr (by simp; exact hne); have HFS := hid hfs; clear hx hfs; go_wp2; go_quiet (fail); go_wp2; go_quiet (fail); go_wp2_with (go_at_call 162; refine (zdA bf k _ (by exact HFS.out _)).mono ?_; rintro e w' ⟨rfl, rfl⟩); refine ⟨rfl, ?_⟩; rw [HX.out]
          exact ⟨rfl, (zal HG.out _).set 1 _⟩
        have hq2 : decide ((2 : Int) < (q : Int) + 1 - (p : Int)) = false := by have := HQ.out; simp; omega
        go_wp2; go_quiet (fail); go_wp2; go_quiet (fail); go_wp2; go_roundg (3 - (j + 1))
        case rel =>
         have e1 : valN s p (j + 1) = 10 * v + (byt s q - 48) := by rw [valN_step s p j (by omega), HV.out, HQ.out]
         have e2 : p + (j + 1) = q + 1 := by have := HQ.out; omega
         refine ⟨j + 1, by omega, by omega, ?_, HD'.out, ?_, (zal HG.out _).set 1 _⟩
         . rw [e1]
           exact congrArg (Value.int IntKind.i64) (by omega)
         . rw [e2]
           exact (HP.out.drewN _).inc (by omega)
        case measure => omega
      have hz2 : decide ((byt s q : Int) <= 57) = false := by simp; omega
      have HX := hid (zew (k := k) hj HD.out (by rw [HQ.out]; exact dig_no (by omega))); have hx := HX.out; by_cases hj0 : j = 0
      . rw [if_pos hj0] at hx
        have hqp : ((q : Int) == (p : Int)) = true := by have := HQ.out; simp; omega
        have HX2 := hid hx; clear hx; go_wp2; go_quiet (fail); go_wp2_with (go_at_call 162; refine (zdA bf k _ (by exact hfr)).mono ?_; rintro e w' ⟨rfl, rfl⟩); refine ⟨rfl, ?_⟩; rw [HX2.out]; exact ⟨rfl, zal HG.out nq⟩
      rw [if_neg hj0, HV.out, HQ.out] at hx
      have hqp : ((q : Int) == (p : Int)) = false := by have := HQ.out; simp; omega
      have HX2 := hid hx; clear hx; go_wp2; go_quiet (fail); go_wp2; go_ret; rw [HX2.out]; exact ⟨_, rfl, rfl, HP.out.drewN nq, zal HG.out nq⟩
    have hz1 : decide ((48 : Int) <= (byt s q : Int)) = false := by simp; omega
    have HX := hid (zew (k := k) hj HD.out (by rw [HQ.out]; exact dig_no (by omega))); have hx := HX.out; by_cases hj0 : j = 0
    . rw [if_pos hj0] at hx
      have hqp : ((q : Int) == (p : Int)) = true := by have := HQ.out; simp; omega
      have HX2 := hid hx; clear hx; go_wp2; go_quiet (fail); go_wp2_with (go_at_call 162; refine (zdA bf k _ (by exact hfr)).mono ?_; rintro e w' ⟨rfl, rfl⟩); refine ⟨rfl, ?_⟩; rw [HX2.out]; exact ⟨rfl, zal HG.out nq⟩
    rw [if_neg hj0, HV.out, HQ.out] at hx
    have hqp : ((q : Int) == (p : Int)) = false := by have := HQ.out; simp; omega
    have HX2 := hid hx; clear hx; go_wp2; go_quiet (fail); go_wp2; go_ret; rw [HX2.out]; exact ⟨_, rfl, rfl, HP.out.drewN nq, zal HG.out nq⟩
  have hz : decide ((q : Int) < (s.size : Int)) = false := by simp; omega
  have HX := hid (zew (k := k) hj HD.out (by rw [HQ.out]; exact dig_no (by omega))); have hx := HX.out; by_cases hj0 : j = 0
  . rw [if_pos hj0] at hx
    have hqp : ((q : Int) == (p : Int)) = true := by have := HQ.out; simp; omega
    have HX2 := hid hx; clear hx; go_wp2; go_quiet (fail); go_wp2_with (go_at_call 162; refine (zdA bf k _ (by exact hfr)).mono ?_; rintro e w' ⟨rfl, rfl⟩); refine ⟨rfl, ?_⟩; rw [HX2.out]; exact ⟨rfl, zal HG.out nq⟩
  rw [if_neg hj0, HV.out, HQ.out] at hx
  have hqp : ((q : Int) == (p : Int)) = false := by have := HQ.out; simp; omega
  have HX2 := hid hx; clear hx; go_wp2; go_quiet (fail); go_wp2; go_ret; rw [HX2.out]; exact ⟨_, rfl, rfl, HP.out.drewN nq, zal HG.out nq⟩
end Go.Proofs.YtghpmhllpaheiaaGreatDoor
namespace Go.Proofs.YtghpmhllpaheiaaGreatDoor
open Go.RowKit Go.Lib
theorem take_any (bp : Nat) (s : ByteArray) (p : Nat) (w : World) (h : PS bp s p w) :
 Calls Tryz.prog 99 #[.pointer (some ⟨bp, 0, none⟩)] w (Out bp s w (fun c v _ => v = .int .i32 c) (zem s p)) := by
 cases hx : zem s p with
 | ok cq => exact (zcM bp s p w cq.1 cq.2 h hx).mono fun r w' ⟨h1, h2, h3⟩ => ⟨_, h1, rfl, h2, h3⟩
 | error e => exact (take_err bp s p w e h hx).mono fun r w' ⟨h1, h2⟩ => ⟨h1, zah h2 _⟩
theorem zgz (a d : Nat) (ha : a < 16777216) (hd : d < 16) : bits .or .i32 ((a : Int) * 16) (d : Int) = ((16 * a + d : Nat) : Int) := by
 rw [bits_join .i32 31 (by decide) wraps_i32 4 _ _ (by omega) (by omega) (by omega) (by omega) (by omega) (by omega)]; omega
theorem zjY : ∀ x : Fin 256, bits .or .u8 ((x.val : Nat) : Int) 32 = ((x.val ||| 32 : Nat) : Int) := by decide
theorem ziE : ∀ x : Fin 256, hexP x.val = none -> ¬ (48 <= x.val /\ x.val <= 57) /\ ¬ (97 <= (x.val ||| 32) /\ (x.val ||| 32) <= 102) := by decide
theorem ziK : ∀ x : Fin 256, ∀ d ∈ hexP x.val, d < 16 /\ ((48 <= x.val /\ x.val <= 57 /\ d + 48 = x.val) \/ (¬ (48 <= x.val /\ x.val <= 57) /\ 97 <= (x.val ||| 32) /\ (x.val ||| 32) <= 102 /\ d + 87 = (x.val ||| 32))) := by decide
theorem zg4 (s : ByteArray) (k f p v d : Nat) : zbC s k (f + 1) p v d =
 if decide (p < s.size) && !decide (byt s p = 125) then
  match hexP (byt s p) with
  | none => .error (2, k)
  | some h => if d = 6 then .error (2, k) else zbC s k f (p + 1) (16 * v + h) (d + 1)
 else .ok (v, d, p) := rfl
theorem ziC (bp : Nat) (s : ByteArray) (p k : Nat) (w : World) (h : PS bp s p w) :
 Calls Tryz.prog 167 #[.pointer (some ⟨bp, 0, none⟩), .int .i64 k] w (Out bp s w (fun c v _ => v = .int .i32 c) (zdM s p k)) := by
 have hS := zhM bp s p 123 w h; have H := hid h; have hs := h.size; clear h; cases h1 : isB s p 123 with
 | false =>
  rw [h1] at hS; have HC : Hid (zdM s p k = .error (2, k)) := hid (by rw [zdM, h1, if_neg (by decide)]); go_enter Tryz.func167, Tryz.ntmps167; go_wp2_with (first | (go_at_call 164; refine hS.mono ?_; rintro e w1 ⟨rfl, hp1, hg1⟩) | (go_at_call 80; refine (zaU 2 k _).mono ?_; rintro e w' ⟨rfl, rfl⟩)); refine ⟨rfl, ?_⟩; rw [HC.out]; exact ⟨rfl, hg1⟩
 | true =>
  rw [h1, if_pos rfl] at hS; have HE : ∀ e, zbC s k 8 (p + 1) 0 0 = .error e -> zdM s p k = .error e := fun e he => by rw [zdM, h1, if_pos rfl, he]
  have HO : ∀ v d q, zbC s k 8 (p + 1) 0 0 = .ok (v, d, q) -> zdM s p k = if d ≠ 0 /\ isB s q 125 = true /\ ((v < 55296) \/ (57343 < v /\ v <= 1114111)) then .ok (v, q + 1) else .error (2, k) := fun v d q he => by rw [zdM, h1, if_pos rfl, he]
  have HE2 := hid HE; have HO2 := hid HO; clear HE HO; clear h1; go_enter Tryz.func167, Tryz.ntmps167; go_wp2_with (first | (go_at_call 164; refine hS.mono ?_; rintro e w1 ⟨rfl, hp1, hg1⟩)); have HP1 := hid hp1; have HG1 := hid hg1; clear hp1 hg1 hS; go_loopg [5, 6] 8 (fun gh v d wr => ∃ (a n f : Nat), f = gh /\ n + f = 8 /\ n <= 6 /\ v = .int .i32 a /\ d = .int .i64 n /\ a < 16 ^ n /\ zbC s k 8 (p + 1) 0 0 = zbC s k f (p + 1 + n) a n /\ PS bp s (p + 1 + n) wr /\ w.grownBy wr (some bp))
  case atStart => exact ⟨0, 0, 8, rfl, rfl, by omega, rfl, rfl, by decide, rfl, HP1.out, HG1.out⟩
  case round =>
   obtain ⟨a, n, f, hfg, hnf, hn6, rfl, rfl, ha, hloop, hps, hgr⟩ := hrel; have HFG := hid hfg; have HNF := hid hnf; clear hfg; generalize hqe : p + 1 + n = q at *; have HQ := hid hqe; clear hqe; obtain ⟨d0, d1, g1⟩ := hps.cells; have hle := hps.le; have HP := hid hps; have HG := hid hgr; have hbl := zbR s q; have ha6 : a < 16777216 := zLd ha (Nat.pow_le_pow_right (n := 16) (by decide) hn6); have HA := hid ha; obtain ⟨g, hg⟩ : ∃ g, f = g + 1 := ⟨f - 1, by omega⟩; rw [hg, zg4 s k g q a n] at hloop; have HGF := hid hg; clear hg hnf
   have HL := hid hloop; clear hps hgr ha hloop; have hqz : (q : Int) + 1 <= 2000 := by omega
   by_cases hlt : q < s.size
   . have hz : (q : Int) < (s.size : Int) := by omega
     have hb := zdE s q hlt; by_cases h125 : byt s q = 125
     . have h125' : ((byt s q : Int) != 125) = false := by simp; omega
       have hB : isB s q 125 = true := by unfold isB; simp [hlt, h125]
       have hL := HL.out; rw [if_neg (by simp [h125])] at hL; have HL2 := hid hL; have HBB := hid hB; clear hL h125 hB; have HO3 := HO2.out _ _ _ HL2.out; clear h125'; by_cases hn0 : n = 0
       . have hnz : ((n : Int) == 0) = true := by simp; omega
         have h125' : ((byt s q : Int) != 125) = false := by have := HBB.out; unfold isB at this; simp at this; simp [this]
         rw [if_neg (by simp [hn0])] at HO3; have HO4 := hid HO3; clear HO3 hn0; go_wp2; go_quiet (fail); go_wp2_with (first | (go_at_call 80; refine (zaU 2 k _).mono ?_; rintro e w' ⟨rfl, rfl⟩)); refine ⟨rfl, ?_⟩; rw [HO4.out]; exact ⟨rfl, zal HG.out _⟩
       have hnz : ((n : Int) == 0) = false := by simp; omega
       have h125e := (zgH HBB.out).2; have h125' : ((byt s q : Int) != 125) = false := by simp [h125e]
       cases hv : validRune a with
       | true =>
        have hvr := fun w => zeX (a : Int) w; rw [hv] at hvr; rw [if_pos ⟨hn0, HBB.out, by unfold validRune at hv; simp at hv; omega⟩] at HO3; have HO4 := hid HO3; have HE5 := hid h125e; clear HO3 hn0 hv h125e; go_wp2; go_quiet (fail); go_wp2_with (first | (go_at_call 164; refine (zhV bp s q 125 _ (by exact HP.out.drewN _) hlt HE5.out).mono ?_; rintro e w2 ⟨rfl, hp2, hg2⟩) | (go_at_call 85; refine (hvr _).mono ?_; rintro e w' ⟨rfl, rfl⟩)); go_ret; rw [HO4.out]; exact ⟨_, rfl, rfl, hp2, zad (zal HG.out _) hg2⟩
       | false =>
        have hvr := fun w => zeX (a : Int) w; rw [hv] at hvr; rw [if_neg (by rintro ⟨_, _, h⟩; unfold validRune at hv; simp at hv; omega)] at HO3; have HO4 := hid HO3; have HE5 := hid h125e; clear HO3 hn0 hv h125e; go_wp2; go_quiet (fail); go_wp2_with (first | (go_at_call 164; refine (zhV bp s q 125 _ (by exact HP.out.drewN _) hlt HE5.out).mono ?_; rintro e w2 ⟨rfl, hp2, hg2⟩) | (go_at_call 85; refine (hvr _).mono ?_; rintro e w' ⟨rfl, rfl⟩) | (go_at_call 80; refine (zaU 2 k _).mono ?_; rintro e w' ⟨rfl, rfl⟩)); refine ⟨rfl, ?_⟩; rw [HO4.out]
        exact ⟨rfl, zad (zal HG.out _) hg2⟩
     have h125' : ((byt s q : Int) != 125) = true := by simp; omega
     have hL := HL.out; rw [if_pos (by simp [hlt, h125])] at hL; clear HL h125; cases hh : hexP (byt s q) with
     | none =>
      obtain ⟨k1, k2⟩ := ziE ⟨byt s q, hbl⟩ hh; have ho := zjY ⟨byt s q, hbl⟩; simp only at k1 k2 ho; rw [hh] at hL; have HL := hid hL; clear hL hh; generalize hor : byt s q ||| 32 = bo at *; generalize byt s q = b at *; clear hor; by_cases j1 : 48 <= b
      . have kz1 : (48 : Int) <= (b : Int) := by omega
        have kz2 : ¬ ((b : Int) <= 57) := by omega
        by_cases j2 : 97 <= bo
        . have kz3 : (97 : Int) <= (bo : Int) := by omega
          have kz4 : ¬ ((bo : Int) <= 102) := by omega
          go_wp2; go_quiet (fail); go_wp2; go_quiet (fail); go_wp2_with (first | (go_at_call 80; refine (zaU 2 k _).mono ?_; rintro e w' ⟨rfl, rfl⟩)); refine ⟨rfl, ?_⟩; rw [HE2.out _ HL.out]; exact ⟨rfl, zal HG.out _⟩
        have kz3 : ¬ ((97 : Int) <= (bo : Int)) := by omega
        go_wp2; go_quiet (fail); go_wp2; go_quiet (fail); go_wp2_with (first | (go_at_call 80; refine (zaU 2 k _).mono ?_; rintro e w' ⟨rfl, rfl⟩)); refine ⟨rfl, ?_⟩; rw [HE2.out _ HL.out]; exact ⟨rfl, zal HG.out _⟩
      . have kz1 : ¬ ((48 : Int) <= (b : Int)) := by omega
        by_cases j2 : 97 <= bo
        . have kz3 : (97 : Int) <= (bo : Int) := by omega
          have kz4 : ¬ ((bo : Int) <= 102) := by omega
          go_wp2; go_quiet (fail); go_wp2; go_quiet (fail); go_wp2_with (first | (go_at_call 80; refine (zaU 2 k _).mono ?_; rintro e w' ⟨rfl, rfl⟩)); refine ⟨rfl, ?_⟩; rw [HE2.out _ HL.out]; exact ⟨rfl, zal HG.out _⟩
        . have kz3 : ¬ ((97 : Int) <= (bo : Int)) := by omega
          go_wp2; go_quiet (fail); go_wp2; go_quiet (fail); go_wp2_with (first | (go_at_call 80; refine (zaU 2 k _).mono ?_; rintro e w' ⟨rfl, rfl⟩)); refine ⟨rfl, ?_⟩; rw [HE2.out _ HL.out]; exact ⟨rfl, zal HG.out _⟩
     | some d =>
      obtain ⟨hd16, hcase⟩ := ziK ⟨byt s q, hbl⟩ d hh; have ho := zjY ⟨byt s q, hbl⟩; simp only at hd16 hcase ho; rw [hh] at hL
      replace hL : zbC s k 8 (p + 1) 0 0 = if n = 6 then .error (2, k) else zbC s k g (q + 1) (16 * a + d) (n + 1) := hL
      have HL := hid hL; clear hL hh; generalize hor : byt s q ||| 32 = bo at *; generalize byt s q = b at *; clear hor
      rcases hcase with ⟨k1, k2, k3⟩ | ⟨k1, k2, k3, k4⟩
      . have kz1 : (48 : Int) <= (b : Int) := by omega
        have kz2 : (b : Int) <= 57 := by omega
        have KD : Hid ((b : Int) - 48 = (d : Int)) := by show _ = _; omega
        clear ho k3; by_cases hn : n = 6
        . have hn' : decide ((6 : Int) < (n : Int) + 1) = true := by simp; omega
          have hL := HL.out; rw [if_pos hn] at hL; have HL2 := hid hL; clear hL hn; go_wp2; go_quiet (fail); go_wp2; go_quiet (fail); go_wp2_with (first | (go_at_call 80; refine (zaU 2 k _).mono ?_; rintro e w' ⟨rfl, rfl⟩)); refine ⟨rfl, ?_⟩; rw [HE2.out _ HL2.out]; exact ⟨rfl, zal HG.out _⟩
        have hn' : decide ((6 : Int) < (n : Int) + 1) = false := by simp; omega
        have hL := HL.out; rw [if_neg hn] at hL; have HL2 := hid hL; have hn5 : n <= 5 := by omega
        clear hL hn; go_wp2; go_quiet (fail); go_wp2; go_quiet (fail); go_wp2; go_roundg g
        case rel =>
         have e2 : p + 1 + (n + 1) = q + 1 := by have := HQ.out; omega
         refine ⟨16 * a + d, n + 1, g, rfl, by have := HNF.out; have := HGF.out; omega, by omega, ?_, rfl, ?_, ?_, ?_, (zal HG.out _).set 1 _⟩
         . rw [KD.out]
           exact congrArg (Value.int IntKind.i32) (zgz a d ha6 hd16)
         . have := HA.out
           rw [Nat.pow_succ]; omega
         . rw [HL2.out, e2]
         . rw [e2]; exact (HP.out.drewN _).inc hlt
        case measure => have := HFG.out; have := HGF.out; omega
      have kz3 : (97 : Int) <= (bo : Int) := by omega
      have kz4 : (bo : Int) <= 102 := by omega
      have KD : Hid ((bo : Int) - 97 + 10 = (d : Int)) := by show _ = _; omega
      clear k4; by_cases j1 : 48 <= b
      . have kz1 : (48 : Int) <= (b : Int) := by omega
        have kz2 : ¬ ((b : Int) <= 57) := by omega
        by_cases hn : n = 6
        . have hn' : decide ((6 : Int) < (n : Int) + 1) = true := by simp; omega
          have hL := HL.out; rw [if_pos hn] at hL; have HL2 := hid hL; clear hL hn; go_wp2; go_quiet (fail); go_wp2; go_quiet (fail); go_wp2_with (first | (go_at_call 80; refine (zaU 2 k _).mono ?_; rintro e w' ⟨rfl, rfl⟩)); refine ⟨rfl, ?_⟩; rw [HE2.out _ HL2.out]; exact ⟨rfl, zal HG.out _⟩
        have hn' : decide ((6 : Int) < (n : Int) + 1) = false := by simp; omega
        have hL := HL.out; rw [if_neg hn] at hL; have HL2 := hid hL; have hn5 : n <= 5 := by omega
        clear hL hn; go_wp2; go_quiet (fail); go_wp2; go_quiet (fail); go_wp2; go_roundg g
        case rel =>
         have e2 : p + 1 + (n + 1) = q + 1 := by have := HQ.out; omega
         refine ⟨16 * a + d, n + 1, g, rfl, by have := HNF.out; have := HGF.out; omega, by omega, ?_, rfl, ?_, ?_, ?_, (zal HG.out _).set 1 _⟩
         . rw [KD.out]
           exact congrArg (Value.int IntKind.i32) (zgz a d ha6 hd16)
         . have := HA.out
           rw [Nat.pow_succ]; omega
         . rw [HL2.out, e2]
         . rw [e2]; exact (HP.out.drewN _).inc hlt
        case measure => have := HFG.out; have := HGF.out; omega
      have kz1 : ¬ ((48 : Int) <= (b : Int)) := by omega
      by_cases hn : n = 6
      . have hn' : decide ((6 : Int) < (n : Int) + 1) = true := by simp; omega
        have hL := HL.out; rw [if_pos hn] at hL; have HL2 := hid hL; clear hL hn; go_wp2; go_quiet (fail); go_wp2; go_quiet (fail); go_wp2_with (first | (go_at_call 80; refine (zaU 2 k _).mono ?_; rintro e w' ⟨rfl, rfl⟩)); refine ⟨rfl, ?_⟩; rw [HE2.out _ HL2.out]; exact ⟨rfl, zal HG.out _⟩
      have hn' : decide ((6 : Int) < (n : Int) + 1) = false := by simp; omega
      have hL := HL.out; rw [if_neg hn] at hL; have HL2 := hid hL; have hn5 : n <= 5 := by omega
      clear hL hn; go_wp2; go_quiet (fail); go_wp2; go_quiet (fail); go_wp2; go_roundg g
      case rel =>
       have e2 : p + 1 + (n + 1) = q + 1 := by have := HQ.out; omega
       refine ⟨16 * a + d, n + 1, g, rfl, by have := HNF.out; have := HGF.out; omega, by omega, ?_, rfl, ?_, ?_, ?_, (zal HG.out _).set 1 _⟩
       . rw [KD.out]
         exact congrArg (Value.int IntKind.i32) (zgz a d ha6 hd16)
       . have := HA.out
         rw [Nat.pow_succ]; omega
       . rw [HL2.out, e2]
       . rw [e2]; exact (HP.out.drewN _).inc hlt
      case measure => have := HFG.out; have := HGF.out; omega
   have hz : decide ((q : Int) < (s.size : Int)) = false := by simp; omega
   have hL := HL.out; rw [if_neg (by simp; omega)] at hL; have HL2 := hid hL; have HO3 := HO2.out _ _ _ HL2.out; rw [if_neg (by rintro ⟨_, h, _⟩; have := (zgH h).1; omega)] at HO3; have HO4 := hid HO3; clear HO3 hL; by_cases hn0 : n = 0
   . have hnz : ((n : Int) == 0) = true := by simp; omega
     clear hn0; go_wp2; go_quiet (fail); go_wp2_with (first | (go_at_call 80; refine (zaU 2 k _).mono ?_; rintro e w' ⟨rfl, rfl⟩)); refine ⟨rfl, ?_⟩; rw [HO4.out]; exact ⟨rfl, zal HG.out _⟩
   have hnz : ((n : Int) == 0) = false := by simp; omega
   clear hn0; go_wp2; go_quiet (fail); go_wp2_with (first | (go_at_call 164; refine (sign_no bp s q 125 _ (by exact HP.out.drewN _) (fun h => absurd h hlt)).mono ?_; rintro e w2 ⟨rfl, hp2, hg2⟩) | (go_at_call 80; refine (zaU 2 k _).mono ?_; rintro e w' ⟨rfl, rfl⟩)); refine ⟨rfl, ?_⟩; rw [HO4.out]; exact ⟨rfl, zad (zal HG.out _) hg2⟩
theorem edge_any (bp : Nat) (s : ByteArray) (p : Nat) (w : World) (h : PS bp s p w)
 (hsc : ∀ w, PS bp s p w -> Calls Tryz.prog 142 #[.pointer (some ⟨bp, 0, none⟩)] w (Out bp s w (fun c v _ => v = .int .i32 c) (zaV s p))) :
 Calls Tryz.prog 165 #[.pointer (some ⟨bp, 0, none⟩)] w (Out bp s w (fun c v _ => v = .int .i32 c) (zhN s p)) := by
 have H := hid h; unfold zhN; cases hx : zbp s p with
 | error e =>
  have hP := zcy bp s p w _ h hx; clear h; go_enter Tryz.func165, Tryz.ntmps165; go_wp2_with (first | (go_at_call 98; refine hP.mono ?_; rintro e w1 ⟨rfl, hb1⟩)); exact ⟨rfl, rfl, zah hb1 _⟩
 | ok c =>
  have hP := zbH bp s p w _ h hx; clear h hx; by_cases hc : c = -1 \/ c = 91 \/ c = 93 \/ c = 45
  . simp only [if_pos hc]
    have HS := hid hsc; clear hsc
    rcases hc with rfl | rfl | rfl | rfl
    all_goals
     go_enter Tryz.func165, Tryz.ntmps165; go_wp2_with (first | (go_at_call 98; refine hP.mono ?_; rintro e w1 ⟨rfl, hb1⟩; have h1 := H.out.below hb1; obtain ⟨d0, d1, f1⟩ := h1.cells; clear h1) | (go_at_call 80; refine (zaU 2 p _).mono ?_; rintro e w' ⟨rfl, rfl⟩)); exact ⟨rfl, rfl, zah hb1 _⟩
  simp only [if_neg hc]
  have e1 : (c == -1) = false := by simp; omega
  have e2 : (c == 91) = false := by simp; omega
  have e3 : (c == 93) = false := by simp; omega
  have e4 : (c == 45) = false := by simp; omega
  have HS := hid hsc; clear hsc hc; go_enter Tryz.func165, Tryz.ntmps165; go_wp2_with (first | (go_at_call 98; refine hP.mono ?_; rintro e w1 ⟨rfl, hb1⟩)); have h1 := H.out.below hb1; refine (HS.out _ h1).mono ?_; intro r w2 hr; cases hx2 : zaV s p with
  | error e =>
   rw [hx2] at hr; obtain ⟨rfl, hg2⟩ := hr; refine ⟨rfl, ?_⟩; rw [hx2]; exact ⟨rfl, zad (zah hb1 _) hg2⟩
  | ok cq =>
   rw [hx2] at hr; obtain ⟨v, rfl, rfl, hp2, hg2⟩ := hr; go_wp2; go_ret; rw [hx2]; exact ⟨_, rfl, rfl, hp2, zad (zah hb1 _) hg2⟩
end Go.Proofs.YtghpmhllpaheiaaGreatDoor
namespace Go.Proofs.YtghpmhllpaheiaaGreatDoor
open Go.RowKit Go.Lib
theorem Out.of {α : Type} {bp : Nat} {s : ByteArray} {w w1 : World} {V : α -> Value -> World -> Prop} {x : Except Err (α × Nat)} {r : Ending} {w' : World} (hg : w.grownBy w1 (some bp)) (h : Out bp s w1 V x r w') : Out bp s w V x r w' := by
 cases x with
 | error e => exact ⟨h.1, zad hg h.2⟩
 | ok aq => obtain ⟨v, h1, h2, h3, h4⟩ := h; exact ⟨v, h1, h2, h3, zad hg h4⟩
abbrev escS : ByteArray := ⟨#[40, 41, 91, 93, 123, 125, 124, 42, 43, 63, 46, 92, 45, 94]⟩
theorem PS.iterAt {bp : Nat} {s : ByteArray} {p : Nat} {w : World} (h : PS bp s p w) {B : Nat} (hB : bp < B) (t : ByteArray) (n : Nat) : PS bp s p (w.iterAt B t n) :=
 ⟨(iterAt_other w B bp t n (by omega)).trans h.at', zfl h.tabs fun a ha => World.cell?_of_block (w := w) (iterAt_other w B a.block t n (by have := h.glob; omega)), h.glob, h.size, h.le⟩
theorem zea {a w : World} {row : Option Nat} (h : a.grownBy w row) {B : Nat} (hB : a.heap.size <= B) (t : ByteArray) (n : Nat) : a.grownBy (w.iterAt B t n) row :=
 ⟨h.os, h.tape, h.output, by rw [iterAt_size]; exact h.size, fun k hk hr => (iterAt_other w B k t n (by omega)).trans (h.block k hk hr)⟩
theorem esc_dec : ∀ k : Fin 14, ∀ e, escs[k.val]? = some e -> Utf8.decode escS k.val = (e, 1) := by decide +kernel
theorem esc_small : ∀ k : Fin 14, ∀ e ∈ escs[k.val]?, e < 128 := by decide
theorem zhh (bp : Nat) (s : ByteArray) (p : Nat) (w : World) (h : PS bp s p w) :
 Calls Tryz.prog 142 #[.pointer (some ⟨bp, 0, none⟩)] w (Out bp s w (fun c v _ => v = .int .i32 c) (zaV s p)) := by
 have hT := take_any bp s p w h; obtain ⟨c0, c1, f1⟩ := h.cells; have H := hid h; have hs := h.size; have hp := h.le; clear h; cases hx : zem s p with
 | error e =>
  rw [hx] at hT; have HC : Hid (zaV s p = .error e) := hid (by rw [zaV, hx]); clear hx; go_enter Tryz.func142, Tryz.ntmps142; go_wp2_with (go_at_call 99; refine hT.mono ?_; rintro e w1 ⟨rfl, hg1⟩); refine ⟨rfl, ?_⟩; rw [HC.out]; exact ⟨rfl, hg1⟩
 | ok cq =>
  obtain ⟨c, q⟩ := cq; rw [hx] at hT; by_cases h92 : c = 92
  . subst h92
    have hqs : q <= s.size := by
     obtain ⟨hk, hq⟩ := zfY hx
     rcases zfc hk with ⟨_, h⟩ | ⟨h1, h2, h3⟩
     . omega
     rw [if_neg (by omega)] at hq; have := (zfA s p h1 h2).2.1; omega
    by_cases hlt : q < s.size
    . have hz : (q : Int) < (s.size : Int) := by omega
      have hqe : ((q : Int) == (s.size : Int)) = false := by simp; omega
      have hw : IntKind.i64.wrap ((q : Int) + 1) = (q : Int) + 1 := IntWalk.i64_in _ (by omega); have hb := zdE s q hlt; have hbl := zbR s q; by_cases b1 : byt s q = 110
      . have HC : Hid (zaV s p = .ok (10, q + 1)) := hid (by rw [zaV, hx]; simp only [if_pos hlt]; rw [if_pos trivial, if_pos b1])
        clear hx; have hbb : (byt s q : Int) = 110 := by omega
        rw [hbb] at hb; clear hbb; go_enter Tryz.func142, Tryz.ntmps142; go_wp2_with (go_at_call 99; refine hT.mono ?_; rintro e w1 ⟨v, rfl, rfl, hp1, hg1⟩; obtain ⟨d0, d1, g1⟩ := hp1.cells; have HP1 := hid hp1; have HG1 := hid hg1; clear hp1 hg1); go_quiet (fail); go_wp2; go_quiet (fail); go_wp2; go_ret; rw [HC.out]; exact ⟨_, rfl, rfl, (HP1.out.drewN _).inc hlt, (zal HG1.out _).set 1 _⟩
      by_cases b2 : byt s q = 116
      . have HC : Hid (zaV s p = .ok (9, q + 1)) := hid (by rw [zaV, hx]; simp only [if_pos hlt]; rw [if_pos trivial, if_neg b1, if_pos b2])
        clear hx; have hbb : (byt s q : Int) = 116 := by omega
        rw [hbb] at hb; clear hbb; go_enter Tryz.func142, Tryz.ntmps142; go_wp2_with (go_at_call 99; refine hT.mono ?_; rintro e w1 ⟨v, rfl, rfl, hp1, hg1⟩; obtain ⟨d0, d1, g1⟩ := hp1.cells; have HP1 := hid hp1; have HG1 := hid hg1; clear hp1 hg1); go_quiet (fail); go_wp2; go_quiet (fail); go_wp2; go_ret; rw [HC.out]; exact ⟨_, rfl, rfl, (HP1.out.drewN _).inc hlt, (zal HG1.out _).set 1 _⟩
      by_cases b3 : byt s q = 114
      . have HC : Hid (zaV s p = .ok (13, q + 1)) := hid (by rw [zaV, hx]; simp only [if_pos hlt]; rw [if_pos trivial, if_neg b1, if_neg b2, if_pos b3])
        clear hx; have hbb : (byt s q : Int) = 114 := by omega
        rw [hbb] at hb; clear hbb; go_enter Tryz.func142, Tryz.ntmps142; go_wp2_with (go_at_call 99; refine hT.mono ?_; rintro e w1 ⟨v, rfl, rfl, hp1, hg1⟩; obtain ⟨d0, d1, g1⟩ := hp1.cells; have HP1 := hid hp1; have HG1 := hid hg1; clear hp1 hg1); go_quiet (fail); go_wp2; go_quiet (fail); go_wp2; go_ret; rw [HC.out]; exact ⟨_, rfl, rfl, (HP1.out.drewN _).inc hlt, (zal HG1.out _).set 1 _⟩
      have n1 : ((byt s q : Int) == 110) = false := by simp; omega
      have n2 : ((byt s q : Int) == 116) = false := by simp; omega
      have n3 : ((byt s q : Int) == 114) = false := by simp; omega
      by_cases b4 : byt s q = 117
      . have HC : Hid (zaV s p = zdM s (q + 1) p) := hid (by rw [zaV, hx]; simp only [if_pos hlt]; rw [if_pos trivial, if_neg b1, if_neg b2, if_neg b3, if_pos b4])
        clear hx b1 b2 b3; have hbb : (byt s q : Int) = 117 := by omega
        rw [hbb] at hb n1 n2 n3; clear hbb b4 n1 n2 n3; go_enter Tryz.func142, Tryz.ntmps142; go_wp2_with (go_at_call 99; refine hT.mono ?_; rintro e w1 ⟨v, rfl, rfl, hp1, hg1⟩; obtain ⟨d0, d1, g1⟩ := hp1.cells; have HP1 := hid hp1; have HG1 := hid hg1; clear hp1 hg1); go_quiet (fail); go_wp2; go_quiet (fail); cases hcd : zdM s (q + 1) p with
        | error e =>
         have HC2 : Hid (zaV s p = .error e) := hid (HC.out.trans hcd); clear hcd; go_wp2_with (go_at_call 167; refine (ziC bp s (q + 1) p _ (by exact (HP1.out.drewN _).inc hlt)).mono ?_; intro r w2 hr; rw [HC.out.symm.trans HC2.out] at hr; obtain ⟨rfl, hg2⟩ := hr); refine ⟨rfl, ?_⟩; rw [HC2.out]; exact ⟨rfl, zad ((zal HG1.out _).set 1 _) hg2⟩
        | ok cq2 =>
         have HC2 : Hid (zaV s p = .ok cq2) := hid (HC.out.trans hcd); clear hcd; go_wp2_with (go_at_call 167; refine (ziC bp s (q + 1) p _ (by exact (HP1.out.drewN _).inc hlt)).mono ?_; intro r w2 hr; rw [HC.out.symm.trans HC2.out] at hr; obtain ⟨v, rfl, rfl, hp2, hg2⟩ := hr); go_ret; rw [HC2.out]; exact ⟨_, rfl, rfl, hp2, zad ((zal HG1.out _).set 1 _) hg2⟩
      have n4 : ((byt s q : Int) == 117) = false := by simp; omega
      have HC : Hid (zaV s p = if escs.contains (byt s q) then .ok (byt s q, q + 1) else .error (2, p)) := hid (by rw [zaV, hx]; simp only [if_pos hlt]; rw [if_pos trivial, if_neg b1, if_neg b2, if_neg b3, if_neg b4]); clear hx b1 b2 b3 b4; go_enter Tryz.func142, Tryz.ntmps142; go_wp2_with (go_at_call 99; refine hT.mono ?_; rintro e w1 ⟨v, rfl, rfl, hp1, hg1⟩; obtain ⟨d0, d1, g1⟩ := hp1.cells; have HP1 := hid hp1; have HG1 := hid hg1; clear hp1 hg1)
      have hiter : ∀ n, (((w1.drewN n).setCell ⟨bp, 1, none⟩ (.int .i64 ((q : Int) + 1))).iter escS 0).heap[w1.heap.size]? = some (.stringIter escS 0) := fun n => by
       have e := World.iter_heap ((w1.drewN n).setCell ⟨bp, 1, none⟩ (.int .i64 ((q : Int) + 1))) escS 0; have e2 : ((w1.drewN n).setCell ⟨bp, 1, none⟩ (.int .i64 ((q : Int) + 1))).heap.size = w1.heap.size := by simp [World.setCell]
       rw [e2] at e; exact e
      have HI := hid hiter; have hbw : bp < w1.heap.size := HP1.out.lt; have hww : w.heap.size <= w1.heap.size := HG1.out.size; clear hiter; go_quiet (fail); go_wp2; go_quiet (fail); go_wp2; generalize byt s q = b at *; have hbb : IntKind.i32.wrap (b : Int) = b := IntWalk.i32_in _ (by omega); go_loopg [7] 14 (fun gh c wr => ∃ k : Nat, k + gh = 14 /\ wr.heap[w1.heap.size]? = some (.stringIter escS k) /\ (∀ i, i < k -> escs[i]? ≠ some b) /\ PS bp s (q + 1) wr /\ w.grownBy wr (some bp))
      case atStart =>
       have h2 := (HP1.out.drewN (nq + nq)).inc hlt; refine ⟨0, rfl, HI.out _, fun i hi => by omega, ?_, ?_⟩
       . exact ((HP1.out.drewN _).inc hlt).below ((Below.refl _ _).alloc (Nat.le_refl _) _)
       . exact zad ((zal HG1.out _).set 1 _) (zah ((Below.refl _ _).alloc (Nat.le_refl _) _) _)
      case round =>
       obtain ⟨k, hkg, hit, hno, hps, hgr⟩ := hrel; have HIT := hid hit; have HPS := hid hps; have HGR := hid hgr; have HNO := hid hno; by_cases hk : k < 14
       . obtain ⟨e, he⟩ : ∃ e, escs[k]? = some e := ⟨escs[k]'(by simpa [escs] using hk), zLe _⟩
         have hdec : Utf8.decode escS k = (e, 1) := esc_dec ⟨k, hk⟩ e he; have hn := run_next_any_at (P := Tryz.prog) wr w1.heap.size escS k 0 hit (show k < escS.size from hk); rw [hdec] at hn; have h8 : e < 128 := esc_small ⟨k, hk⟩ e he; have HE := hid he; clear hit hps hgr hno hdec he; by_cases hbe : b = e
         . have ht : ((b : Int) == (e : Int)) = true := by simp; omega
           have HBE := hid hbe; clear hbe; go_wp2; go_ret; rw [HC.out]; have hcon : escs.contains b = true := by rw [HBE.out]; exact List.contains_iff_mem.2 (List.mem_of_getElem? HE.out)
           rw [if_pos hcon]; exact ⟨_, rfl, by rw [HBE.out]; rfl, PS.iterAt HPS.out hbw _ _, zea HGR.out hww _ _⟩
         have ht : ((b : Int) == (e : Int)) = false := by simp; omega
         have HBE := hid hbe; clear hbe; go_wp2; go_roundg (14 - (k + 1))
         case rel =>
          refine ⟨k + 1, by omega, iterAt_heap _ _ _ _ _ HIT.out, fun i hi => ?_, PS.iterAt HPS.out hbw _ _, zea HGR.out hww _ _⟩; by_cases hik : i = k
          . rw [hik, HE.out]; intro h; exact HBE.out (Option.some.inj h).symm
          . exact HNO.out i (by omega)
         case measure => omega
       have hk14 : k = 14 := by omega
       have hn := run_next_end_at (P := Tryz.prog) wr w1.heap.size escS k 0 hit (show ¬ k < escS.size from hk); clear hit hps hgr hno; go_wp2_with (first | (go_at_call 80; refine (zaU 2 p _).mono ?_; rintro e w' ⟨rfl, rfl⟩)); refine ⟨rfl, ?_⟩; rw [HC.out]; have hcon : ¬ escs.contains b = true := fun h => by
        obtain ⟨i, hi⟩ := List.getElem?_of_mem (List.contains_iff_mem.1 h); have hi14 : i < 14 := by
         have := (List.getElem?_eq_some_iff.1 hi).1; simpa [escs] using this
        exact HNO.out i (by omega) hi
       rw [if_neg hcon]; exact ⟨rfl, HGR.out⟩
    have hqe : ((q : Int) == (s.size : Int)) = true := by simp; omega
    have HC : Hid (zaV s p = .error (2, p)) := hid (by rw [zaV, hx]; simp only [if_neg hlt]; rw [if_pos trivial]); clear hx; go_enter Tryz.func142, Tryz.ntmps142; go_wp2_with (go_at_call 99; refine hT.mono ?_; rintro e w1 ⟨v, rfl, rfl, hp1, hg1⟩; obtain ⟨d0, d1, g1⟩ := hp1.cells; have HP1 := hid hp1; have HG1 := hid hg1; clear hp1 hg1); go_quiet (fail); go_wp2_with (first | (go_at_call 80; refine (zaU 2 p _).mono ?_; rintro e w' ⟨rfl, rfl⟩)); refine ⟨rfl, ?_⟩; rw [HC.out]; exact ⟨rfl, zal HG1.out _⟩
  have hne : (c != 92) = true := by simp; omega
  have HC : Hid (zaV s p = .ok (c, q)) := hid (by rw [zaV, hx]; simp only [if_neg h92]); clear hx h92; go_enter Tryz.func142, Tryz.ntmps142; go_wp2_with (go_at_call 99; refine hT.mono ?_; rintro e w1 ⟨v, rfl, rfl, hp1, hg1⟩); go_ret; rw [HC.out]; exact ⟨_, rfl, rfl, hp1, hg1⟩
end Go.Proofs.YtghpmhllpaheiaaGreatDoor
namespace Go.Proofs.YtghpmhllpaheiaaGreatDoor
theorem zf7 {s : ByteArray} {p : Nat} {c : Int} (h : zbp s p = .ok c) : -1 <= c /\ c <= 1114111 /\ (c ≠ -1 -> p < s.size /\ p < p + (Utf8.decode s p).2 /\ p + (Utf8.decode s p).2 <= s.size) := by
 unfold zbp at h; split at h
 . next he =>
   split at h
   . cases h
   next hd =>
   injection h with h
   obtain ⟨x, k, e, hh⟩ := zcd s p he hd; rw [e] at h ⊢; simp only at h ⊢; omega
 injection h with h
 subst h; exact ⟨by omega, by omega, fun h => absurd rfl h⟩
theorem takeP_le {s : ByteArray} {p : Nat} {c : Int} {q : Nat} (h : zem s p = .ok (c, q)) (hp : p <= s.size) : -1 <= c /\ c <= 1114111 /\ p <= q /\ q <= s.size /\ (c ≠ -1 -> p < q) := by
 obtain ⟨h1, h2⟩ := zfY h; obtain ⟨h3, h4, h5⟩ := zf7 h1; split at h2
 . next hc => subst h2; exact ⟨h3, h4, by omega, hp, fun h => absurd hc h⟩
 next hc => have := h5 hc; exact ⟨h3, h4, by omega, by omega, fun _ => by omega⟩
theorem zfR {s : ByteArray} {k : Nat} : ∀ (f p v d v' d' q : Nat), zbC s k f p v d = .ok (v', d', q) -> p <= q
 | 0, _, _, _, _, _, _, h => by cases h
 | f + 1, p, v, d, v', d', q, h => by
  rw [zbC] at h; split at h
  . split at h
    . cases h
    split at h
    . cases h
    have := zfR f _ _ _ _ _ _ h; omega
  injection h with h; cases h; exact Nat.le_refl _
theorem codedP_le {s : ByteArray} {p k : Nat} {c : Int} {q : Nat} (h : zdM s p k = .ok (c, q)) : 0 <= c /\ c <= 1114111 /\ p < q /\ q <= s.size := by
 unfold zdM at h; split at h
 . split at h
   . cases h
   next v d q' hl =>
   split at h
   . next hc =>
     injection h with h
     cases h; have h1 := zfR _ _ _ _ _ _ _ hl; have h2 := (zgH hc.2.1).1; omega
   cases h
 cases h
theorem zkT {s : ByteArray} {p : Nat} {c : Int} {q : Nat} (h : zaV s p = .ok (c, q)) (hp : p <= s.size) : -1 <= c /\ c <= 1114111 /\ p <= q /\ q <= s.size /\ (zbp s p ≠ .ok (-1) -> 0 <= c /\ p < q) := by
 unfold zaV at h; split at h
 . cases h
 next c' q' ht =>
 obtain ⟨h1, h2, h3, h4, h5⟩ := takeP_le ht hp; split at h
 . next hc =>
   have h5 := h5 (by omega); split at h
   . split at h
     . injection h with h; cases h; exact ⟨by omega, by omega, by omega, by omega, fun _ => by omega⟩
     split at h
     . injection h with h; cases h; exact ⟨by omega, by omega, by omega, by omega, fun _ => by omega⟩
     split at h
     . injection h with h; cases h; exact ⟨by omega, by omega, by omega, by omega, fun _ => by omega⟩
     split at h
     . have := codedP_le h; exact ⟨by omega, by omega, by omega, by omega, fun _ => by omega⟩
     split at h
     . have := zbR s q'; injection h with h; cases h; exact ⟨by omega, by omega, by omega, by omega, fun _ => by omega⟩
     cases h
   cases h
 next hc =>
 injection h with h
 cases h; refine ⟨h1, h2, h3, h4, fun hn => ?_⟩; have : c ≠ -1 := fun e => hn (by rw [<- e]; exact (zfY ht).1); have := h5 this; omega
theorem zkn {s : ByteArray} {p : Nat} {c : Int} {q : Nat} (h : zhN s p = .ok (c, q)) (hp : p <= s.size) : 0 <= c /\ c <= 1114111 /\ p < q /\ q <= s.size := by
 unfold zhN at h; split at h
 . cases h
 next c' hk =>
 split at h
 . cases h
 next hc =>
 obtain ⟨h1, h2, h3, h4, h5⟩ := zkT h hp; have := h5 (by rw [hk]; intro e; cases e; exact hc (.inl rfl)); omega
theorem zkC {s : ByteArray} {p : Nat} {x : Int × Int} {q : Nat} (h : zeG s p = .ok (x, q)) (hp : p <= s.size) : 0 <= x.1 /\ x.1 <= 1114111 /\ 0 <= x.2 /\ x.2 <= 1114111 /\ x.1 <= x.2 /\ p < q /\ q <= s.size := by
 unfold zeG at h; split at h
 . cases h
 next lo q1 h1 =>
 obtain ⟨a1, a2, a3, a4⟩ := zkn h1 hp; split at h
 . cases h
 next c hc =>
 split at h
 . next h45 =>
   obtain ⟨b1, b2, b3⟩ := zf7 hc; have hq : q1 + 1 <= s.size := (b3 (by omega)).1; split at h
   . cases h
   next hi q2 h2 =>
   obtain ⟨c1, c2, c3, c4⟩ := zkn h2 hq; split at h
   . cases h
   injection h with h; cases h; simp only; omega
 injection h with h; cases h; simp only; omega
end Go.Proofs.YtghpmhllpaheiaaGreatDoor
