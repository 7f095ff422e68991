/-
  Part of the proof: Tk1, Bl0. No condition beyond those in the statements.
-/
import Derived.Laws.BitsLemmas
import Derived.Test.YtghpmhllpaheiaaGreatDoorK05
import Derived.Test.YtghpmhllpaheiaaGreatDoorK01
import Derived.Test.YtghpmhllpaheiaaGreatDoorK30
set_option linter.unusedVariables false
set_option linter.unusedSimpArgs false
set_option maxRecDepth 100000
set_option maxHeartbeats 4000000
namespace Go.Proofs.YtghpmhllpaheiaaGreatDoor
section
open Go.RowKit Go.Lib
def digN (s : ByteArray) : Nat → Nat
 | 0 => 0
 | i + 1 => digN s i + byt s i % 128 * 128 ^ i
structure DigAt (s : ByteArray) (k u : Nat) : Prop where
 pos : 0 < k
 four : k ≤ 4
 len : k ≤ s.size
 more : ∀ j, j + 1 < k → 128 ≤ byt s j
 last : byt s (k - 1) < 128
 val : digN s k = u
theorem digN_lt (s : ByteArray) : ∀ i, digN s i < 128 ^ i
 | 0 => by simp [digN]
 | i + 1 => by
  have := digN_lt s i; have h : byt s i % 128 < 128 := Nat.mod_lt _ (by decide); rw [digN, Nat.pow_succ]; have : byt s i % 128 * 128 ^ i ≤ 127 * 128 ^ i := Nat.mul_le_mul_right _ (by omega); omega
theorem low7 (b : Nat) (h : b < 256) : bits .and .u8 (b : Int) 127 = ((b % 128 : Nat) : Int) := by
 have h8 : ∀ x, x < 256 → x &&& 127 = x % 128 := by decide +kernel
 have h := (bits_nat .u8 8 (by decide) wraps_u8 b 127 h (by decide)).1; refine h.trans ?_; rw [h8 _ (by assumption)]
theorem w64_nat (n : Nat) (h : n < 268435456) : wrap64 (n : Int) = (n : Int) ∧ wrap64 ((n : Int) - 1) = (n : Int) - 1 := by
 unfold wrap64; omega
theorem or_low (a m i : Nat) (ha : a < 2 ^ i) (hm : m < 128) (hi : i ≤ 21) : bits .or .u64 (a : Int) ((m * 2 ^ i : Nat) : Int) = ((a + m * 2 ^ i : Nat) : Int) := by
 have hp : 2 ^ i ≤ 2 ^ 21 := Nat.pow_le_pow_right (by decide) hi; have hmm : m * 2 ^ i ≤ 127 * 2 ^ 21 := Nat.mul_le_mul (by omega) hp; have h := (bits_nat .u64 63 (by decide) (fun n h0 h1 => by rw [IntKind.wrap_u64]; omega) a (m * 2 ^ i) (by omega) (by omega)).2; refine h.trans ?_; rw [Nat.or_comm, Nat.mul_comm m, ← Nat.two_pow_add_eq_or_of_lt ha, Nat.add_comm]
theorem takeN_any (rb : Nat) (s : ByteArray) (k u : Nat) (lo hi : Int) (w : World) (hw : w.heap[rb]? = some (.cells #[.string s, .bool true] 113 (0, 0))) (hd : DigAt s k u) (hr : lo ≤ (u : Int) - 1 ∧ (u : Int) - 1 ≤ hi) :
 Calls Tryz.prog 46 #[.pointer (some ⟨rb, 0, none⟩), .int .i64 lo, .int .i64 hi] w fun e w' => e = .returned (.int .i64 ((u : Int) - 1)) ∧ w' = w.setCell ⟨rb, 0, none⟩ (.string (s.extract k s.size)) := by
 have c0 := cell_of _ _ 0 _ _ _ hw; have f0 := free_of _ _ 0 _ _ hw; have hl := lt_of_some hw; simp only [List.getElem?_toArray, List.getElem?_cons_zero, List.getElem?_cons_succ] at c0; have HD := hid hd; have h4 := hd.four; have h1 := hd.len; have y1 : lo ≤ (u : Int) - 1 := hr.1; have y2 : (u : Int) - 1 ≤ hi := hr.2; clear hw hd hr; go_enter Tryz.func46, Tryz.ntmps46; go_wp2_with (fail); go_loopw [7, 8] (fun s7 s8 wr => ∃ i : Nat, s8 = .int .i64 i ∧ s7 = .int .u64 (digN s i : Nat) ∧ i < k ∧ wr = w) (fun _ s8 _ => 4 - (RowKit.intOf s8).toNat)
 case atStart => exact ⟨0, rfl, rfl, HD.out.pos, rfl⟩
 case round =>
  obtain ⟨i, rfl, rfl, hik, rfl⟩ := hrel; have z1 : (i : Int) < (s.size : Int) := by omega
  have z2 : (i : Int) < 4 := by omega
  have his : i < s.size := by omega
  have hb256 := byt_lt s i; have ebi : (s[i]'his).toNat = byt s i := by
   unfold byt; simp only [ByteArray.get!]; rw [getElem!_pos _ _ (by simpa using his)]; rfl
  have hlow := low7 (byt s i) hb256; have hdl := digN_lt s i; have hds : digN s (i + 1) = digN s i + byt s i % 128 * 128 ^ i := rfl; have HDS := hid hds; clear hds; generalize digN s i = dv at hdl HDS ⊢; have w2' : IntKind.i64.wrap ((i : Int) + 1) = (i : Int) + 1 := IntWalk.i64_in _ (by omega); obtain ⟨nv, hnv⟩ : ∃ nv, nv = dv + byt s i % 128 * 128 ^ i := ⟨_, rfl⟩; have HNV : Hid (digN s (i + 1) = nv) := hid (by rw [HDS.out, hnv]); have hm7 : byt s i % 128 < 128 := Nat.mod_lt _ (by decide); have hnl : nv < 268435456 := by
   have h := digN_lt s (i + 1); rw [HNV.out] at h; exact Nat.lt_of_lt_of_le h (Nat.le_trans (Nat.pow_le_pow_right (by decide) (show i + 1 ≤ 4 by omega)) (by decide))
  by_cases hlast : i + 1 = k
  · have hby := HD.out.last
    rw [show k - 1 = i by omega] at hby; have y3 : ¬ (128 : Int) ≤ ((s[i]'his).toNat : Int) := by rw [ebi]; omega
    have hu : nv = u := by rw [← HNV.out, hlast]; exact HD.out.val
    have q1 : wrap64 (nv : Int) = (nv : Int) := (w64_nat nv hnl).1; have q2 : wrap64 ((nv : Int) - 1) = (nv : Int) - 1 := (w64_nat nv hnl).2; have y4 : lo ≤ (nv : Int) - 1 := by rw [hu]; exact y1
    have y5 : (nv : Int) - 1 ≤ hi := by rw [hu]; exact y2
    have HU := hid (And.intro hu hlast); clear hu hlast hby y1 y2; obtain rfl | rfl | rfl | rfl : i = 0 ∨ i = 1 ∨ i = 2 ∨ i = 3 := by omega
    · have hor : bits .or .u64 (dv : Int) ((byt s 0 : Int) % 128) = (nv : Int) := by
       rw [hnv]; have := or_low dv (byt s 0 % 128) 0 (by simpa using hdl) hm7 (by decide); simpa using this
      clear HNV hnv; go_wp2_with (fail); go_ret; exact ⟨by rw [← HU.out.1]; rfl, by rw [← HU.out.2]⟩
    · have hor : bits .or .u64 (dv : Int) ((byt s 1 : Int) % 128 * 128) = (nv : Int) := by
       rw [hnv]; have := or_low dv (byt s 1 % 128) 7 (by simpa using hdl) hm7 (by decide); simpa using this
      clear HNV hnv; go_wp2_with (fail); go_ret; exact ⟨by rw [← HU.out.1]; rfl, by rw [← HU.out.2]⟩
    · have hor : bits .or .u64 (dv : Int) ((byt s 2 : Int) % 128 * 16384) = (nv : Int) := by
       rw [hnv]; have := or_low dv (byt s 2 % 128) 14 (by simpa using hdl) hm7 (by decide); simpa using this
      clear HNV hnv; go_wp2_with (fail); go_ret; exact ⟨by rw [← HU.out.1]; rfl, by rw [← HU.out.2]⟩
    · have hor : bits .or .u64 (dv : Int) ((byt s 3 : Int) % 128 * 2097152) = (nv : Int) := by
       rw [hnv]; have := or_low dv (byt s 3 % 128) 21 (by simpa using hdl) hm7 (by decide); simpa using this
      clear HNV hnv; go_wp2_with (fail); go_ret; exact ⟨by rw [← HU.out.1]; rfl, by rw [← HU.out.2]⟩
  · have hby := HD.out.more i (by omega)
    have y3 : (128 : Int) ≤ ((s[i]'his).toNat : Int) := by rw [ebi]; omega
    have hlt : i + 1 < k := by omega
    have HLT := hid hlt; clear hlast hby hlt; obtain rfl | rfl | rfl | rfl : i = 0 ∨ i = 1 ∨ i = 2 ∨ i = 3 := by omega
    · have hor : bits .or .u64 (dv : Int) ((byt s 0 : Int) % 128) = (nv : Int) := by
       rw [hnv]; have := or_low dv (byt s 0 % 128) 0 (by simpa using hdl) hm7 (by decide); simpa using this
      clear hnv; go_wp2_with (fail); go_roundw
      case rel => exact ⟨1, by go_num, by rw [HNV.out], HLT.out, trivial⟩
      case measure => (simp [RowKit.intOf] <;> omega)
    · have hor : bits .or .u64 (dv : Int) ((byt s 1 : Int) % 128 * 128) = (nv : Int) := by
       rw [hnv]; have := or_low dv (byt s 1 % 128) 7 (by simpa using hdl) hm7 (by decide); simpa using this
      clear hnv; go_wp2_with (fail); go_roundw
      case rel => exact ⟨2, by go_num, by rw [HNV.out], HLT.out, trivial⟩
      case measure => (simp [RowKit.intOf] <;> omega)
    · have hor : bits .or .u64 (dv : Int) ((byt s 2 : Int) % 128 * 16384) = (nv : Int) := by
       rw [hnv]; have := or_low dv (byt s 2 % 128) 14 (by simpa using hdl) hm7 (by decide); simpa using this
      clear hnv; go_wp2_with (fail); go_roundw
      case rel => exact ⟨3, by go_num, by rw [HNV.out], HLT.out, trivial⟩
      case measure => (simp [RowKit.intOf] <;> omega)
    · have := HLT.out; omega
end
section
open Go.RowKit Go.Lib
theorem size_strOf (l : List Nat) : (strOf l).size = l.length := by
 show (l.map UInt8.ofNat).toArray.size = _; simp
theorem byt_strOf {l : List Nat} (h : ∀ x ∈ l, x < 256) (j : Nat) (hj : j < l.length) : byt (strOf l) j = l[j] := by
 have e : (strOf l).get! j = UInt8.ofNat l[j] := by
  show (l.map UInt8.ofNat).toArray[j]! = _; rw [getElem!_pos _ _ (by simpa using hj)]; simp
 unfold byt; rw [e]; have := h l[j] (List.getElem_mem hj); simp; omega
theorem strOf_drop (a b : List Nat) : (strOf (a ++ b)).extract a.length (strOf (a ++ b)).size = strOf b := by
 rw [size_strOf]; apply ByteArray.ext; rw [ByteArray.data_extract]; apply Array.ext'; show (((a ++ b).map UInt8.ofNat).toArray.extract a.length (a ++ b).length).toList = ((b.map UInt8.ofNat).toArray).toList; simp; exact List.take_of_length_le (by simp)
theorem putU_four (u : Nat) (h : u < 268435456) :
 (u < 128 ∧ putU 5 u = [u]) ∨ (128 ≤ u ∧ u < 16384 ∧ putU 5 u = [u % 128 + 128, u / 128]) ∨ (16384 ≤ u ∧ u < 2097152 ∧ putU 5 u = [u % 128 + 128, u / 128 % 128 + 128, u / 128 / 128]) ∨
  (2097152 ≤ u ∧ putU 5 u = [u % 128 + 128, u / 128 % 128 + 128, u / 128 / 128 % 128 + 128, u / 128 / 128 / 128]) := by
 by_cases h1 : u < 128
 · exact .inl ⟨h1, by rw [putU, if_neg (by omega)]⟩
 by_cases h2 : u < 16384
 · exact .inr (.inl ⟨by omega, h2, by rw [putU, if_pos (by omega), putU, if_neg (by omega)]⟩)
 by_cases h3 : u < 2097152
 · exact .inr (.inr (.inl ⟨by omega, h3, by rw [putU, if_pos (by omega), putU, if_pos (by omega), putU, if_neg (by omega)]⟩))
 · exact .inr (.inr (.inr ⟨by omega, by rw [putU, if_pos (by omega), putU, if_pos (by omega), putU, if_pos (by omega), putU, if_neg (by omega)]⟩))
theorem digOf (n : Int) (h : -1 ≤ n ∧ n < 100000000) (rest : List Nat) (hr : ∀ x ∈ rest, x < 256) : DigAt (strOf (putI n ++ rest)) (putI n).length (n + 1).toNat := by
 obtain ⟨u, hu⟩ : ∃ u, u = (n + 1).toNat := ⟨_, rfl⟩; have hul : u < 268435456 := by omega
 rw [← hu]; have hp : putI n = putU 5 u := by unfold putI; rw [hu]
 rw [hp]; have h256 : ∀ x ∈ putU 5 u ++ rest, x < 256 := fun x hx => by
  rcases List.mem_append.1 hx with hx | hx
  · exact putU_lt 5 u (by omega) x hx
  · exact hr x hx
 have hb := fun j hj => byt_strOf h256 j hj; have hs := size_strOf (putU 5 u ++ rest)
 rcases putU_four u hul with ⟨h1, e⟩ | ⟨h1, h2, e⟩ | ⟨h1, h2, e⟩ | ⟨h1, e⟩
 · rw [e] at hb hs ⊢
   have b0 := hb 0 (by simp); simp at b0; refine ⟨by simp, by simp, by rw [hs]; simp, fun j hj => by simp at hj, ?_, ?_⟩
   · show byt _ 0 < 128
     simp only [List.cons_append, List.nil_append]; omega
   · show digN _ 1 = u
     simp only [digN, List.cons_append, List.nil_append]; rw [b0]; omega
 · rw [e] at hb hs ⊢
   have b0 := hb 0 (by simp); have b1 := hb 1 (by simp); simp at b0 b1; refine ⟨by simp, by simp, by rw [hs]; simp, fun j hj => ?_, ?_, ?_⟩
   · simp at hj
     obtain rfl : j = 0 := by omega
     simp only [List.cons_append, List.nil_append]; omega
   · show byt _ 1 < 128
     simp only [List.cons_append, List.nil_append]; omega
   · show digN _ 2 = u
     simp only [digN, List.cons_append, List.nil_append]; rw [b0, b1]; omega
 · rw [e] at hb hs ⊢
   have b0 := hb 0 (by simp); have b1 := hb 1 (by simp); have b2 := hb 2 (by simp); simp at b0 b1 b2; refine ⟨by simp, by simp, by rw [hs]; simp, fun j hj => ?_, ?_, ?_⟩
   · simp at hj
     simp only [List.cons_append, List.nil_append]; obtain rfl | rfl : j = 0 ∨ j = 1 := by omega
     · omega
     · omega
   · show byt _ 2 < 128
     simp only [List.cons_append, List.nil_append]; omega
   · show digN _ 3 = u
     simp only [digN, List.cons_append, List.nil_append]; rw [b0, b1, b2]; omega
 · rw [e] at hb hs ⊢
   have b0 := hb 0 (by simp); have b1 := hb 1 (by simp); have b2 := hb 2 (by simp); have b3 := hb 3 (by simp); simp at b0 b1 b2 b3; refine ⟨by simp, by simp, by rw [hs]; simp, fun j hj => ?_, ?_, ?_⟩
   · simp at hj
     simp only [List.cons_append, List.nil_append]; obtain rfl | rfl | rfl : j = 0 ∨ j = 1 ∨ j = 2 := by omega
     · omega
     · omega
     · omega
   · show byt _ 3 < 128
     simp only [List.cons_append, List.nil_append]; omega
   · show digN _ 4 = u
     simp only [digN, List.cons_append, List.nil_append]; rw [b0, b1, b2, b3]; omega
theorem take_put (rb : Nat) (n lo hi : Int) (rest : List Nat) (w : World) (hw : w.heap[rb]? = some (.cells #[.string (strOf (putI n ++ rest)), .bool true] 113 (0, 0))) (hn : -1 ≤ n ∧ n < 100000000) (hr : ∀ x ∈ rest, x < 256) (hlo : lo ≤ n) (hhi : n ≤ hi) :
 Calls Tryz.prog 46 #[.pointer (some ⟨rb, 0, none⟩), .int .i64 lo, .int .i64 hi] w fun e w' => e = .returned (.int .i64 n) ∧ w' = w.setCell ⟨rb, 0, none⟩ (.string (strOf rest)) := by
 refine (takeN_any rb _ _ _ lo hi w hw (digOf n hn rest hr) (by omega)).mono ?_; rintro e w' ⟨rfl, rfl⟩; rw [strOf_drop]; exact ⟨by congr 2; omega, rfl⟩
end
end Go.Proofs.YtghpmhllpaheiaaGreatDoor
