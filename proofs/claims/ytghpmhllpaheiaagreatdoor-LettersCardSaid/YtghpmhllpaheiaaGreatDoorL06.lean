/-
  Part of the proof: So4, So5, So6, So7. No condition beyond those in the statements.
-/
import Derived.Deep.CutBlock
import Derived.Deep.DeepCutAuto
import Derived.Test.YtghpmhllpaheiaaGreatDoorL05
set_option linter.unusedVariables false
set_option linter.unusedSimpArgs false
set_option maxRecDepth 100000
set_option maxHeartbeats 8000000
namespace Go.Proofs.YtghpmhllpaheiaaGreatDoor
section
open Go.RowKit Go.Lib
open Go.Sort (swp ltInt)
theorem zeV (p : Int -> Bool) (d : Array Int) (j i : Nat) (h : i <= j) (hp : p d[i]! = true) : Sort.scanUp p d j i = Sort.scanUp p d j (i + 1) := by
 rw [Sort.scanUp, if_pos (by simp [h, hp])]
theorem zbJ (p : Int -> Bool) (d : Array Int) (j i : Nat) (h : ¬ i <= j \/ p d[i]! = false) : Sort.scanUp p d j i = i := by
 rw [Sort.scanUp, if_neg]
 rcases h with h | h <;> simp [h]
theorem zdB (p : Int -> Bool) (d : Array Int) (i j : Nat) (h : i <= j) (hj : 0 < j) (hp : p d[j]! = true) : Sort.scanDown p d i j = Sort.scanDown p d i (j - 1) := by
 obtain ⟨j, rfl⟩ : ∃ k, j = k + 1 := ⟨j - 1, by omega⟩; rw [Sort.scanDown, if_pos (by simp [h, hp])]; rfl
theorem zbB (p : Int -> Bool) (d : Array Int) (i j : Nat) (h : ¬ i <= j \/ p d[j]! = false) : Sort.scanDown p d i j = j := by
 cases j with
 | zero => rfl
 | succ j =>
  rw [Sort.scanDown, if_neg]
  rcases h with h | h <;> simp [h]
theorem zdS (p : Int -> Bool) (d : Array Int) (j : Nat) : ∀ (n i : Nat), j + 1 - i <= n -> i <= Sort.scanUp p d j i /\ (Sort.scanUp p d j i <= j + 1 \/ Sort.scanUp p d j i = i) := by
 intro n
 induction n with
 | zero => intro i h; rw [zbJ p d j i (.inl (by omega))]; omega
 | succ n ih =>
  intro i h; by_cases hc : i <= j /\ p d[i]! = true
  . rw [zeV p d j i hc.1 hc.2]
    have := ih (i + 1) (by omega); omega
  rw [zbJ p d j i (by by_cases h1 : i <= j <;> simp_all)]; omega
theorem zc6 (p : Int -> Bool) (d : Array Int) (i : Nat) : ∀ (j : Nat), Sort.scanDown p d i j <= j /\ (i <= Sort.scanDown p d i j + 1 \/ Sort.scanDown p d i j = j) := by
 intro j
 induction j with
 | zero => exact ⟨Nat.le_refl _, .inr rfl⟩
 | succ j ih =>
  by_cases hc : i <= j + 1 /\ p d[j + 1]! = true
  . rw [zdB p d i (j + 1) hc.1 (by omega) hc.2]
    simp only [Nat.add_sub_cancel]; omega
  rw [zbB p d i (j + 1) (by by_cases h1 : i <= j + 1 <;> simp_all)]; omega
theorem zjn (a i j i2 j2 : Nat) (d : Array Int) (hi : i2 = Sort.scanUp (fun x => ltInt x d[a]!) d j i) (hj : j2 = Sort.scanDown (fun x => !ltInt x d[a]!) d i2 j) (hi0 : 0 < i) :
 Sort.partLoop ltInt a i j d = if j2 < i2 then (j2, d) else Sort.partLoop ltInt a (i2 + 1) (j2 - 1) (swp d i2 j2) := by
 have h1 := zdS (fun x => ltInt x d[a]!) d j _ i (Nat.le_refl _); rw [<- hi] at h1; have h2 := zc6 (fun x => !ltInt x d[a]!) d i2 j; rw [<- hj] at h2; rw [Sort.partLoop]; simp only [<- hi, <- hj]; by_cases h : j2 < i2
 . rw [if_pos h, if_pos h]
 rw [if_neg h, if_neg h, dif_pos (by omega)]
theorem zh3 (a i j i2 j2 : Nat) (d : Array Int) (hi : i2 = Sort.scanUp (fun x => !ltInt d[a]! x) d j i) (hj : j2 = Sort.scanDown (fun x => ltInt d[a]! x) d i2 j) (hi0 : 0 < i) :
 Sort.partEqLoop ltInt a i j d = if j2 < i2 then (i2, d) else Sort.partEqLoop ltInt a (i2 + 1) (j2 - 1) (swp d i2 j2) := by
 have h1 := zdS (fun x => !ltInt d[a]! x) d j _ i (Nat.le_refl _); rw [<- hi] at h1; have h2 := zc6 (fun x => ltInt d[a]! x) d i2 j; rw [<- hj] at h2; rw [Sort.partEqLoop]; simp only [<- hi, <- hj]; by_cases h : j2 < i2
 . rw [if_pos h, if_pos h]
 rw [if_neg h, if_neg h, dif_pos (by omega)]
theorem zjh (a b pv i2 j2 : Nat) (d d1 : Array Int) (hd : d1 = swp d a pv) (hi : i2 = Sort.scanUp (fun x => ltInt x d1[a]!) d1 (b - 1) (a + 1)) (hj : j2 = Sort.scanDown (fun x => !ltInt x d1[a]!) d1 i2 (b - 1)) :
 Sort.partition ltInt d a b pv = if j2 < i2 then (j2, true, swp d1 j2 a) else
  ((Sort.partLoop ltInt a (i2 + 1) (j2 - 1) (swp d1 i2 j2)).1, false, swp (Sort.partLoop ltInt a (i2 + 1) (j2 - 1) (swp d1 i2 j2)).2 (Sort.partLoop ltInt a (i2 + 1) (j2 - 1) (swp d1 i2 j2)).1 a) := by
 unfold Sort.partition; simp only [<- hd, <- hi, <- hj]
def PtO (PT : Nat × Bool × Array Int) (blk n : Nat) (r : List Value) (w : World) (e : Ending) (w' : World) : Prop := e = .returned (.tuple #[.int .i64 PT.1, .bool PT.2.1]) /\ SoR blk n r w PT.2.2 w'
theorem zh0 (blk n cap a b pv : Nat) (r : List Value) (d : Array Int) (w : World) (hR : za9 w blk d r) (hn : d.size = n) (hap : a <= pv) (hpb : pv < b) (hb : b <= n) (hsz : n < 1000000000) :
 Calls Tryz.prog 122 #[.slice (some ⟨blk, 0, none⟩) n cap, .int .i64 a, .int .i64 b, .int .i64 pv] w (PtO (Sort.partition ltInt d a b pv) blk n r w) := by
 have hsz1 : (n : Int) < 1000000000 := by omega
 have hb1 : (b : Int) <= n := by omega
 have hab1 : (a : Int) < b := by omega
 have hpn : (pv : Int) < n := by omega
 have hpa : (a : Int) <= pv := by omega
 have hpb1 : (pv : Int) < b := by omega
 have HS0 := hid (SoR.refl (w := w) hR hn); clear hR hn; obtain ⟨PT, hPT⟩ : ∃ x, x = Sort.partition ltInt d a b pv := ⟨_, rfl⟩; have HPT := hid hPT; rw [<- hPT]; clear hPT; go_enter Tryz.func122, Tryz.ntmps122; obtain ⟨d1, hd1⟩ : ∃ x, x = swp d a pv := ⟨_, rfl⟩; have Hd1 := hid hd1; clear hd1; go_upto_region 1 with (fail)
 have c0 := HS0.out.2.1.cell a (by have := HS0.out.1; omega); have c1 := HS0.out.2.1.cell pv (by have := HS0.out.1; omega); have hf0 := HS0.out.2.1.free a; have hf1 := HS0.out.2.1.free pv; have hlj := HS0.out.2.1.lt; go_cut [] (fun wx => SoR blk n r w d1 wx)
 case first =>
  by_cases heq : a = pv
  . subst heq
    clear c1 hf1
    go_region
    all_goals (go_wp2_with (fail); go_meet)
    case rel => rw [Hd1.out]; exact (HS0.out.drewN _).swap a a (by omega) (by omega)
  have hne' : ¬ pv = a := fun e => heq e.symm
  go_region
  all_goals (go_wp2_with (fail); go_meet)
  case rel => rw [Hd1.out]; exact (HS0.out.drewN _).swap a pv (by omega) (by omega)
 rotate_left 0
 case rest =>
  have HS1 := hid hcut; clear hcut c0 c1 hf0 hf1 hlj; go_upto_region 2 with (fail)
  go_cut [10, 11] (fun s10 s11 wx => ∃ i1 j1 : Nat, s10 = .int .i64 i1 /\ s11 = .int .i64 j1 /\ i1 = a + 1 /\ j1 + 1 = b /\ wx = wc)
  case first =>
   go_wp2_with (fail); go_meet
   case rel => exact ⟨a + 1, b - 1, by go_num, by congr 1; omega, rfl, by omega, rfl⟩
  case rest =>
   obtain ⟨i1, j1, rfl, rfl, hi1, hj1, rfl⟩ := hcut
   go_upto_block 0 with (fail)
   go_cut [10] (fun s wx => ∃ k : Nat, s = .int .i64 k /\ k = Sort.scanUp (fun x => ltInt x d1[a]!) d1 j1 i1 /\ SoR blk n r w d1 wx)
   case first =>
    go_wp2; go_loopw [10] (fun s wr => ∃ k : Nat, s = .int .i64 k /\ (i1 <= k /\ k <= j1 + 2) /\ Sort.scanUp (fun x => ltInt x d1[a]!) d1 j1 k = Sort.scanUp (fun x => ltInt x d1[a]!) d1 j1 i1 /\ SoR blk n r w d1 wr) (fun s _ => (j1 + 2) - (RowKit.intOf s).toNat)
    case atStart => exact ⟨i1, rfl, ⟨by omega, by omega⟩, rfl, HS1.out⟩
    case round =>
     obtain ⟨k, rfl, hkr, hE, hS⟩ := hrel; have HE := hid hE; have HS := hid hS; clear hE hS; by_cases hlt : k <= j1
     . have hz : (k : Int) <= (j1 : Int) := by omega
       have hzd : decide ((k : Int) <= (j1 : Int)) = true := by simpa using hz
       have hkn : (k : Int) < (n : Int) := by omega
       have han : (a : Int) < (n : Int) := by omega
       have c0 := HS.out.2.1.cell k (by have := HS.out.1; omega); have c1 := HS.out.2.1.cell a (by have := HS.out.1; omega); cases hl : ltInt d1[k]! d1[a]! with
       | true =>
        go_wp2; go_quiet ((go_at_call 94; exact Calls.quiet_of_same (zbf _ _ _))); go_wp2; go_roundw
        case rel => exact ⟨k + 1, by (first | go_num | (congr 1; omega)), ⟨by omega, by omega⟩, by rw [<- HE.out]; exact (zeV _ d1 j1 k hlt (by simp [hl])).symm, HS.out.drewN _⟩
        case measure => (simp [RowKit.intOf] <;> omega)
       | false =>
        go_wp2; go_quiet ((go_at_call 94; exact Calls.quiet_of_same (zbf _ _ _))); go_wp2_with (fail); go_meet
        case rel => exact ⟨k, rfl, by rw [<- HE.out]; exact (zbJ _ d1 j1 k (.inr (by simp [hl]))).symm, HS.out.drewN _⟩
     . have hzd : decide ((k : Int) <= (j1 : Int)) = false := by simp; omega
       go_wp2; go_quiet (fail); go_wp2_with (fail); go_meet
       case rel => exact ⟨k, rfl, by rw [<- HE.out]; exact (zbJ _ d1 j1 k (.inl hlt)).symm, HS.out.drewN _⟩
   case rest =>
    obtain ⟨i2, rfl, hi2, hS⟩ := hcut; have hbi2 := zdS (fun x => ltInt x d1[a]!) d1 j1 _ i1 (Nat.le_refl _); rw [<- hi2] at hbi2; have Hi2 := hid hi2; clear hi2; have HS2 := hid hS; clear hS
    go_upto_block 2 with (fail)
    go_cut [11] (fun s wx => ∃ k : Nat, s = .int .i64 k /\ k = Sort.scanDown (fun x => !ltInt x d1[a]!) d1 i2 j1 /\ SoR blk n r w d1 wx)
    case first =>
     go_wp2; go_loopw [11] (fun s wr => ∃ k : Nat, s = .int .i64 k /\ (k <= j1 /\ i2 <= k + 2) /\ Sort.scanDown (fun x => !ltInt x d1[a]!) d1 i2 k = Sort.scanDown (fun x => !ltInt x d1[a]!) d1 i2 j1 /\ SoR blk n r w d1 wr) (fun s _ => (RowKit.intOf s).toNat)
     case atStart => exact ⟨j1, rfl, ⟨by omega, by omega⟩, rfl, HS2.out⟩
     case round =>
      obtain ⟨k, rfl, hkr, hE, hS⟩ := hrel; have HE := hid hE; have HS := hid hS; clear hE hS; by_cases hlt : i2 <= k
      . have hz : (i2 : Int) <= (k : Int) := by omega
        have hzd : decide ((i2 : Int) <= (k : Int)) = true := by simpa using hz
        have hkn : (k : Int) < (n : Int) := by omega
        have han : (a : Int) < (n : Int) := by omega
        have c0 := HS.out.2.1.cell k (by have := HS.out.1; omega); have c1 := HS.out.2.1.cell a (by have := HS.out.1; omega); cases hl : ltInt d1[k]! d1[a]! with
        | false =>
         go_wp2; go_quiet ((go_at_call 94; exact Calls.quiet_of_same (zbf _ _ _))); go_wp2; go_roundw
         case rel => exact ⟨k - 1, by (first | go_num | (congr 1; omega)), ⟨by omega, by omega⟩, by rw [<- HE.out]; exact (zdB _ d1 i2 k hlt (by omega) (by simp [hl])).symm, HS.out.drewN _⟩
         case measure => (simp [RowKit.intOf] <;> omega)
        | true =>
         go_wp2; go_quiet ((go_at_call 94; exact Calls.quiet_of_same (zbf _ _ _))); go_wp2_with (fail); go_meet
         case rel => exact ⟨k, rfl, by rw [<- HE.out]; exact (zbB _ d1 i2 k (.inr (by simp [hl]))).symm, HS.out.drewN _⟩
      . have hzd : decide ((i2 : Int) <= (k : Int)) = false := by simp; omega
        go_wp2; go_quiet (fail); go_wp2_with (fail); go_meet
        case rel => exact ⟨k, rfl, by rw [<- HE.out]; exact (zbB _ d1 i2 k (.inl hlt)).symm, HS.out.drewN _⟩
    case rest =>
     obtain ⟨j2, rfl, hj2, hS⟩ := hcut; have hbj2 := zc6 (fun x => !ltInt x d1[a]!) d1 i2 j1; rw [<- hj2] at hbj2; have Hj2 := hid hj2; clear hj2; have HS3 := hid hS; clear hS; have hJ1 : j1 = b - 1 := by omega
     have HPE := hid (zjh a b pv i2 j2 d d1 Hd1.out (by rw [Hi2.out, hJ1, hi1]) (by rw [Hj2.out, hJ1])); clear hJ1; by_cases hgt : j2 < i2
     . have hz : (j2 : Int) < (i2 : Int) := by omega
       obtain ⟨d2, hd2⟩ : ∃ x, x = swp d1 j2 a := ⟨_, rfl⟩; have Hd2 := hid hd2; clear hd2; go_upto_region 8 with (fail); have c0 := HS3.out.2.1.cell j2 (by have := HS3.out.1; omega); have c1 := HS3.out.2.1.cell a (by have := HS3.out.1; omega); have hf0 := HS3.out.2.1.free j2; have hf1 := HS3.out.2.1.free a; have hlj := HS3.out.2.1.lt; go_cut [] (fun wx => SoR blk n r w d2 wx)
       case first =>
        by_cases heq : j2 = a
        . subst heq
          clear c1 hf1
          go_region
          all_goals (go_wp2_with (fail); go_meet)
          case rel => rw [Hd2.out]; exact (HS3.out.drewN _).swap j2 j2 (by omega) (by omega)
        have hne' : ¬ a = j2 := fun e => heq e.symm
        go_region
        all_goals (go_wp2_with (fail); go_meet)
        case rel => rw [Hd2.out]; exact (HS3.out.drewN _).swap j2 a (by omega) (by omega)
       rotate_left 0
       case rest =>
        have HS4 := hid hcut; clear hcut c0 c1 hf0 hf1 hlj; go_wp2
        go_ret2
        unfold PtO; rw [HPT.out, HPE.out, if_pos hgt, <- Hd2.out]; exact ⟨rfl, HS4.out⟩
     have hz : ¬ (j2 : Int) < (i2 : Int) := by omega
     obtain ⟨d2, hd2⟩ : ∃ x, x = swp d1 i2 j2 := ⟨_, rfl⟩; have Hd2 := hid hd2; clear hd2; go_upto_region 10 with (fail); have c0 := HS3.out.2.1.cell i2 (by have := HS3.out.1; omega); have c1 := HS3.out.2.1.cell j2 (by have := HS3.out.1; omega); have hf0 := HS3.out.2.1.free i2; have hf1 := HS3.out.2.1.free j2; have hlj := HS3.out.2.1.lt; go_cut [] (fun wx => SoR blk n r w d2 wx)
     case first =>
      by_cases heq : i2 = j2
      . subst heq
        clear c1 hf1
        go_region
        all_goals (go_wp2_with (fail); go_meet)
        case rel => rw [Hd2.out]; exact (HS3.out.drewN _).swap i2 i2 (by omega) (by omega)
      have hne' : ¬ j2 = i2 := fun e => heq e.symm
      go_region
      all_goals (go_wp2_with (fail); go_meet)
      case rel => rw [Hd2.out]; exact (HS3.out.drewN _).swap i2 j2 (by omega) (by omega)
     rotate_left 0
     case rest =>
      have HS4 := hid hcut; clear hcut c0 c1 hf0 hf1 hlj; go_upto_region 11 with (fail)
      go_cut [10] (fun s10 wx => ∃ i3 : Nat, s10 = .int .i64 i3 /\ i3 = i2 + 1 /\ wx = wc)
      case first =>
       go_wp2_with (fail); go_meet
       case rel => exact ⟨i2 + 1, by go_num, rfl, rfl⟩
      case rest =>
       obtain ⟨i3, rfl, hi3, rfl⟩ := hcut; have HI3 := hid hi3; have hi3a : i3 <= i2 + 1 := by omega
       have hi3b : i2 + 1 <= i3 := by omega
       clear hi3; go_upto_region 12 with (fail)
       go_cut [11] (fun s11 wx => ∃ j3 : Nat, s11 = .int .i64 j3 /\ j3 + 1 = j2 /\ wx = wc)
       case first =>
        go_wp2_with (fail); go_meet
        case rel => exact ⟨j2 - 1, by congr 1; omega, by omega, rfl⟩
       case rest =>
        obtain ⟨j3, rfl, hj3, rfl⟩ := hcut; have HJ3 := hid hj3; have hj3a : j3 + 1 <= j2 := by omega
        have hj3b : j2 <= j3 + 1 := by omega
        clear hj3
        go_upto_block 4 with (fail)
        go_cut [10, 11] (fun _ s11 wx => ∃ (j : Nat) (dk : Array Int), s11 = .int .i64 j /\ j < b /\ Sort.partLoop ltInt a i3 j3 d2 = (j, dk) /\ SoR blk n r w dk wx)
        case first =>
         go_wp2; go_loopw [10, 11] (fun s10 s11 wr => ∃ (i j : Nat) (dk : Array Int), s10 = .int .i64 i /\ s11 = .int .i64 j /\ a < i /\ j < b /\ i <= j + 2 /\ Sort.partLoop ltInt a i j dk = Sort.partLoop ltInt a i3 j3 d2 /\ SoR blk n r w dk wr) (fun s10 s11 _ => (RowKit.intOf s11).toNat + 2 - (RowKit.intOf s10).toNat)
         case atStart => exact ⟨i3, j3, d2, rfl, rfl, by omega, by omega, by omega, rfl, HS4.out⟩
         case round =>
          obtain ⟨ik, jk, dk, rfl, rfl, hik, hjk, hij, hE, hS⟩ := hrel; have HSk := hid hS; have HEk := hid hE; clear hS hE
          go_upto_block 6 with (fail)
          go_cut [10] (fun s wx => ∃ k : Nat, s = .int .i64 k /\ k = Sort.scanUp (fun x => ltInt x dk[a]!) dk jk ik /\ SoR blk n r w dk wx)
          case first =>
           go_wp2; go_loopw [10] (fun s wr => ∃ k : Nat, s = .int .i64 k /\ (ik <= k /\ k <= jk + 2) /\ Sort.scanUp (fun x => ltInt x dk[a]!) dk jk k = Sort.scanUp (fun x => ltInt x dk[a]!) dk jk ik /\ SoR blk n r w dk wr) (fun s _ => (jk + 2) - (RowKit.intOf s).toNat)
           case atStart => exact ⟨ik, rfl, ⟨by omega, by omega⟩, rfl, HSk.out⟩
           case round =>
            obtain ⟨k, rfl, hkr, hE, hS⟩ := hrel; have HE := hid hE; have HS := hid hS; clear hE hS; by_cases hlt : k <= jk
            . have hz : (k : Int) <= (jk : Int) := by omega
              have hzd : decide ((k : Int) <= (jk : Int)) = true := by simpa using hz
              have hkn : (k : Int) < (n : Int) := by omega
              have han : (a : Int) < (n : Int) := by omega
              have c0 := HS.out.2.1.cell k (by have := HS.out.1; omega); have c1 := HS.out.2.1.cell a (by have := HS.out.1; omega); cases hl : ltInt dk[k]! dk[a]! with
              | true =>
               go_wp2; go_quiet ((go_at_call 94; exact Calls.quiet_of_same (zbf _ _ _))); go_wp2; go_roundw
               case rel => exact ⟨k + 1, by (first | go_num | (congr 1; omega)), ⟨by omega, by omega⟩, by rw [<- HE.out]; exact (zeV _ dk jk k hlt (by simp [hl])).symm, HS.out.drewN _⟩
               case measure => (simp [RowKit.intOf] <;> omega)
              | false =>
               go_wp2; go_quiet ((go_at_call 94; exact Calls.quiet_of_same (zbf _ _ _))); go_wp2_with (fail); go_meet
               case rel => exact ⟨k, rfl, by rw [<- HE.out]; exact (zbJ _ dk jk k (.inr (by simp [hl]))).symm, HS.out.drewN _⟩
            . have hzd : decide ((k : Int) <= (jk : Int)) = false := by simp; omega
              go_wp2; go_quiet (fail); go_wp2_with (fail); go_meet
              case rel => exact ⟨k, rfl, by rw [<- HE.out]; exact (zbJ _ dk jk k (.inl hlt)).symm, HS.out.drewN _⟩
          case rest =>
           obtain ⟨il, rfl, hil, hS⟩ := hcut; have hbil := zdS (fun x => ltInt x dk[a]!) dk jk _ ik (Nat.le_refl _); rw [<- hil] at hbil; have Hil := hid hil; clear hil; have HSl := hid hS; clear hS
           go_upto_block 8 with (fail)
           go_cut [11] (fun s wx => ∃ k : Nat, s = .int .i64 k /\ k = Sort.scanDown (fun x => !ltInt x dk[a]!) dk il jk /\ SoR blk n r w dk wx)
           case first =>
            go_wp2; go_loopw [11] (fun s wr => ∃ k : Nat, s = .int .i64 k /\ (k <= jk /\ il <= k + 2) /\ Sort.scanDown (fun x => !ltInt x dk[a]!) dk il k = Sort.scanDown (fun x => !ltInt x dk[a]!) dk il jk /\ SoR blk n r w dk wr) (fun s _ => (RowKit.intOf s).toNat)
            case atStart => exact ⟨jk, rfl, ⟨by omega, by omega⟩, rfl, HSl.out⟩
            case round =>
             obtain ⟨k, rfl, hkr, hE, hS⟩ := hrel; have HE := hid hE; have HS := hid hS; clear hE hS; by_cases hlt : il <= k
             . have hz : (il : Int) <= (k : Int) := by omega
               have hzd : decide ((il : Int) <= (k : Int)) = true := by simpa using hz
               have hkn : (k : Int) < (n : Int) := by omega
               have han : (a : Int) < (n : Int) := by omega
               have c0 := HS.out.2.1.cell k (by have := HS.out.1; omega); have c1 := HS.out.2.1.cell a (by have := HS.out.1; omega); cases hl : ltInt dk[k]! dk[a]! with
               | false =>
                go_wp2; go_quiet ((go_at_call 94; exact Calls.quiet_of_same (zbf _ _ _))); go_wp2; go_roundw
                case rel => exact ⟨k - 1, by (first | go_num | (congr 1; omega)), ⟨by omega, by omega⟩, by rw [<- HE.out]; exact (zdB _ dk il k hlt (by omega) (by simp [hl])).symm, HS.out.drewN _⟩
                case measure => (simp [RowKit.intOf] <;> omega)
               | true =>
                go_wp2; go_quiet ((go_at_call 94; exact Calls.quiet_of_same (zbf _ _ _))); go_wp2_with (fail); go_meet
                case rel => exact ⟨k, rfl, by rw [<- HE.out]; exact (zbB _ dk il k (.inr (by simp [hl]))).symm, HS.out.drewN _⟩
             . have hzd : decide ((il : Int) <= (k : Int)) = false := by simp; omega
               go_wp2; go_quiet (fail); go_wp2_with (fail); go_meet
               case rel => exact ⟨k, rfl, by rw [<- HE.out]; exact (zbB _ dk il k (.inl hlt)).symm, HS.out.drewN _⟩
           case rest =>
            obtain ⟨jl, rfl, hjl, hS⟩ := hcut; have hbjl := zc6 (fun x => !ltInt x dk[a]!) dk il jk; rw [<- hjl] at hbjl; have Hjl := hid hjl; clear hjl; have HSm := hid hS; clear hS; have HPL := hid (zjn a ik jk il jl dk Hil.out Hjl.out (by omega)); by_cases hgt2 : jl < il
            . have hz2 : (jl : Int) < (il : Int) := by omega
              go_wp2_with (fail); go_meet
              case rel => exact ⟨jl, dk, rfl, by omega, by rw [<- HEk.out, HPL.out, if_pos hgt2], HSm.out⟩
            . have hz2 : ¬ (jl : Int) < (il : Int) := by omega
              obtain ⟨dn, hdn⟩ : ∃ x, x = swp dk il jl := ⟨_, rfl⟩; have Hdn := hid hdn; clear hdn; go_upto_region 18 with (fail); have c0 := HSm.out.2.1.cell il (by have := HSm.out.1; omega); have c1 := HSm.out.2.1.cell jl (by have := HSm.out.1; omega); have hf0 := HSm.out.2.1.free il; have hf1 := HSm.out.2.1.free jl; have hlj := HSm.out.2.1.lt; go_cut [] (fun wx => SoR blk n r w dn wx)
              case first =>
               by_cases heq : il = jl
               . subst heq
                 clear c1 hf1
                 go_region
                 all_goals (go_wp2_with (fail); go_meet)
                 case rel => rw [Hdn.out]; exact (HSm.out.drewN _).swap il il (by omega) (by omega)
               have hne' : ¬ jl = il := fun e => heq e.symm
               go_region
               all_goals (go_wp2_with (fail); go_meet)
               case rel => rw [Hdn.out]; exact (HSm.out.drewN _).swap il jl (by omega) (by omega)
              rotate_left 0
              case rest =>
               have HSn := hid hcut; clear hcut c0 c1 hf0 hf1 hlj; go_wp2; go_roundw
               case rel => exact ⟨il + 1, jl - 1, dn, by go_num, by congr 1; omega, by omega, by omega, by omega, by rw [<- HEk.out, HPL.out, if_neg hgt2, Hdn.out], HSn.out⟩
               case measure => (simp [RowKit.intOf] <;> omega)
        case rest =>
         obtain ⟨jf, df, rfl, hjf, hPL, hS⟩ := hcut; have HSf := hid hS; have HPL := hid hPL; clear hS hPL; obtain ⟨d5, hd5⟩ : ∃ x, x = swp df jf a := ⟨_, rfl⟩; have Hd5 := hid hd5; clear hd5; go_upto_region 21 with (fail); have c0 := HSf.out.2.1.cell jf (by have := HSf.out.1; omega); have c1 := HSf.out.2.1.cell a (by have := HSf.out.1; omega); have hf0 := HSf.out.2.1.free jf; have hf1 := HSf.out.2.1.free a; have hlj := HSf.out.2.1.lt; go_cut [] (fun wx => SoR blk n r w d5 wx)
         case first =>
          by_cases heq : jf = a
          . subst heq
            clear c1 hf1
            go_region
            all_goals (go_wp2_with (fail); go_meet)
            case rel => rw [Hd5.out]; exact (HSf.out.drewN _).swap jf jf (by omega) (by omega)
          have hne' : ¬ a = jf := fun e => heq e.symm
          go_region
          all_goals (go_wp2_with (fail); go_meet)
          case rel => rw [Hd5.out]; exact (HSf.out.drewN _).swap jf a (by omega) (by omega)
         rotate_left 0
         case rest =>
          have HS6 := hid hcut; clear hcut c0 c1 hf0 hf1 hlj; go_wp2
          go_ret2
          have e3 : Sort.partition ltInt d a b pv = (jf, false, d5) := by
           have ei : i2 + 1 = i3 := HI3.out.symm; have ej : j2 - 1 = j3 := by omega
           rw [HPE.out, if_neg hgt, <- Hd2.out, ei, ej, HPL.out, Hd5.out]
          unfold PtO; rw [HPT.out, e3]; exact ⟨rfl, HS6.out⟩
end
section
open Go.RowKit Go.Lib
open Go.Sort (swp ltInt)
def PeO (PT : Nat × Array Int) (blk n : Nat) (r : List Value) (w : World) (e : Ending) (w' : World) : Prop := e = .returned (.int .i64 PT.1) /\ SoR blk n r w PT.2 w'
theorem ze6 (blk n cap a b pv : Nat) (r : List Value) (d : Array Int) (w : World) (hR : za9 w blk d r) (hn : d.size = n) (hap : a <= pv) (hpb : pv < b) (hb : b <= n) (hsz : n < 1000000000) :
 Calls Tryz.prog 121 #[.slice (some ⟨blk, 0, none⟩) n cap, .int .i64 a, .int .i64 b, .int .i64 pv] w (PeO (Sort.partitionEqual ltInt d a b pv) blk n r w) := by
 have hsz1 : (n : Int) < 1000000000 := by omega
 have hb1 : (b : Int) <= n := by omega
 have hab1 : (a : Int) < b := by omega
 have hpn : (pv : Int) < n := by omega
 have hpa : (a : Int) <= pv := by omega
 have hpb1 : (pv : Int) < b := by omega
 have HS0 := hid (SoR.refl (w := w) hR hn); clear hR hn; obtain ⟨PT, hPT⟩ : ∃ x, x = Sort.partitionEqual ltInt d a b pv := ⟨_, rfl⟩; have HPT := hid hPT; rw [<- hPT]; clear hPT; go_enter Tryz.func121, Tryz.ntmps121; obtain ⟨d1, hd1⟩ : ∃ x, x = swp d a pv := ⟨_, rfl⟩; have Hd1 := hid hd1; clear hd1; go_upto_region 1 with (fail)
 have c0 := HS0.out.2.1.cell a (by have := HS0.out.1; omega); have c1 := HS0.out.2.1.cell pv (by have := HS0.out.1; omega); have hf0 := HS0.out.2.1.free a; have hf1 := HS0.out.2.1.free pv; have hlj := HS0.out.2.1.lt; go_cut [] (fun wx => SoR blk n r w d1 wx)
 case first =>
  by_cases heq : a = pv
  . subst heq
    clear c1 hf1
    go_region
    all_goals (go_wp2_with (fail); go_meet)
    case rel => rw [Hd1.out]; exact (HS0.out.drewN _).swap a a (by omega) (by omega)
  have hne' : ¬ pv = a := fun e => heq e.symm
  go_region
  all_goals (go_wp2_with (fail); go_meet)
  case rel => rw [Hd1.out]; exact (HS0.out.drewN _).swap a pv (by omega) (by omega)
 rotate_left 0
 case rest =>
  have HS1 := hid hcut; clear hcut c0 c1 hf0 hf1 hlj; go_upto_region 2 with (fail)
  go_cut [9, 10] (fun s10 s11 wx => ∃ i1 j1 : Nat, s10 = .int .i64 i1 /\ s11 = .int .i64 j1 /\ i1 = a + 1 /\ j1 + 1 = b /\ wx = wc)
  case first =>
   go_wp2_with (fail); go_meet
   case rel => exact ⟨a + 1, b - 1, by go_num, by congr 1; omega, rfl, by omega, rfl⟩
  case rest =>
   obtain ⟨i1, j1, rfl, rfl, hi1, hj1, rfl⟩ := hcut; have HI1 := hid hi1; have hi1a : i1 <= a + 1 := by omega
   have hi1b : a + 1 <= i1 := by omega
   clear hi1
   go_upto_block 0 with (fail)
   go_cut [9, 10] (fun s9 _ wx => ∃ (i : Nat) (dk : Array Int), s9 = .int .i64 i /\ Sort.partEqLoop ltInt a i1 j1 d1 = (i, dk) /\ SoR blk n r w dk wx)
   case first =>
    go_wp2; go_loopw [9, 10] (fun s10 s11 wr => ∃ (i j : Nat) (dk : Array Int), s10 = .int .i64 i /\ s11 = .int .i64 j /\ a < i /\ j < b /\ i <= j + 2 /\ Sort.partEqLoop ltInt a i j dk = Sort.partEqLoop ltInt a i1 j1 d1 /\ SoR blk n r w dk wr) (fun s10 s11 _ => (RowKit.intOf s11).toNat + 2 - (RowKit.intOf s10).toNat)
    case atStart => exact ⟨i1, j1, d1, rfl, rfl, by omega, by omega, by omega, rfl, HS1.out⟩
    case round =>
     obtain ⟨ik, jk, dk, rfl, rfl, hik, hjk, hij, hE, hS⟩ := hrel; have HSk := hid hS; have HEk := hid hE; clear hS hE
     go_upto_block 2 with (fail)
     go_cut [9] (fun s wx => ∃ k : Nat, s = .int .i64 k /\ k = Sort.scanUp (fun x => !ltInt dk[a]! x) dk jk ik /\ SoR blk n r w dk wx)
     case first =>
      go_wp2; go_loopw [9] (fun s wr => ∃ k : Nat, s = .int .i64 k /\ (ik <= k /\ k <= jk + 2) /\ Sort.scanUp (fun x => !ltInt dk[a]! x) dk jk k = Sort.scanUp (fun x => !ltInt dk[a]! x) dk jk ik /\ SoR blk n r w dk wr) (fun s _ => (jk + 2) - (RowKit.intOf s).toNat)
      case atStart => exact ⟨ik, rfl, ⟨by omega, by omega⟩, rfl, HSk.out⟩
      case round =>
       obtain ⟨k, rfl, hkr, hE, hS⟩ := hrel; have HE := hid hE; have HS := hid hS; clear hE hS; by_cases hlt : k <= jk
       . have hz : (k : Int) <= (jk : Int) := by omega
         have hzd : decide ((k : Int) <= (jk : Int)) = true := by simpa using hz
         have hkn : (k : Int) < (n : Int) := by omega
         have han : (a : Int) < (n : Int) := by omega
         have c0 := HS.out.2.1.cell k (by have := HS.out.1; omega); have c1 := HS.out.2.1.cell a (by have := HS.out.1; omega); cases hl : ltInt dk[a]! dk[k]! with
         | false =>
          go_wp2; go_quiet ((go_at_call 94; exact Calls.quiet_of_same (zbf _ _ _))); go_wp2; go_roundw
          case rel => exact ⟨k + 1, by (first | go_num | (congr 1; omega)), ⟨by omega, by omega⟩, by rw [<- HE.out]; exact (zeV _ dk jk k hlt (by simp [hl])).symm, HS.out.drewN _⟩
          case measure => (simp [RowKit.intOf] <;> omega)
         | true =>
          go_wp2; go_quiet ((go_at_call 94; exact Calls.quiet_of_same (zbf _ _ _))); go_wp2_with (fail); go_meet
          case rel => exact ⟨k, rfl, by rw [<- HE.out]; exact (zbJ _ dk jk k (.inr (by simp [hl]))).symm, HS.out.drewN _⟩
       . have hzd : decide ((k : Int) <= (jk : Int)) = false := by simp; omega
         go_wp2; go_quiet (fail); go_wp2_with (fail); go_meet
         case rel => exact ⟨k, rfl, by rw [<- HE.out]; exact (zbJ _ dk jk k (.inl hlt)).symm, HS.out.drewN _⟩
     case rest =>
      obtain ⟨il, rfl, hil, hS⟩ := hcut; have hbil := zdS (fun x => !ltInt dk[a]! x) dk jk _ ik (Nat.le_refl _); rw [<- hil] at hbil; have Hil := hid hil; clear hil; have HSl := hid hS; clear hS
      go_upto_block 4 with (fail)
      go_cut [10] (fun s wx => ∃ k : Nat, s = .int .i64 k /\ k = Sort.scanDown (fun x => ltInt dk[a]! x) dk il jk /\ SoR blk n r w dk wx)
      case first =>
       go_wp2; go_loopw [10] (fun s wr => ∃ k : Nat, s = .int .i64 k /\ (k <= jk /\ il <= k + 2) /\ Sort.scanDown (fun x => ltInt dk[a]! x) dk il k = Sort.scanDown (fun x => ltInt dk[a]! x) dk il jk /\ SoR blk n r w dk wr) (fun s _ => (RowKit.intOf s).toNat)
       case atStart => exact ⟨jk, rfl, ⟨by omega, by omega⟩, rfl, HSl.out⟩
       case round =>
        obtain ⟨k, rfl, hkr, hE, hS⟩ := hrel; have HE := hid hE; have HS := hid hS; clear hE hS; by_cases hlt : il <= k
        . have hz : (il : Int) <= (k : Int) := by omega
          have hzd : decide ((il : Int) <= (k : Int)) = true := by simpa using hz
          have hkn : (k : Int) < (n : Int) := by omega
          have han : (a : Int) < (n : Int) := by omega
          have c0 := HS.out.2.1.cell k (by have := HS.out.1; omega); have c1 := HS.out.2.1.cell a (by have := HS.out.1; omega); cases hl : ltInt dk[a]! dk[k]! with
          | true =>
           go_wp2; go_quiet ((go_at_call 94; exact Calls.quiet_of_same (zbf _ _ _))); go_wp2; go_roundw
           case rel => exact ⟨k - 1, by (first | go_num | (congr 1; omega)), ⟨by omega, by omega⟩, by rw [<- HE.out]; exact (zdB _ dk il k hlt (by omega) (by simp [hl])).symm, HS.out.drewN _⟩
           case measure => (simp [RowKit.intOf] <;> omega)
          | false =>
           go_wp2; go_quiet ((go_at_call 94; exact Calls.quiet_of_same (zbf _ _ _))); go_wp2_with (fail); go_meet
           case rel => exact ⟨k, rfl, by rw [<- HE.out]; exact (zbB _ dk il k (.inr (by simp [hl]))).symm, HS.out.drewN _⟩
        . have hzd : decide ((il : Int) <= (k : Int)) = false := by simp; omega
          go_wp2; go_quiet (fail); go_wp2_with (fail); go_meet
          case rel => exact ⟨k, rfl, by rw [<- HE.out]; exact (zbB _ dk il k (.inl hlt)).symm, HS.out.drewN _⟩
      case rest =>
       obtain ⟨jl, rfl, hjl, hS⟩ := hcut; have hbjl := zc6 (fun x => ltInt dk[a]! x) dk il jk; rw [<- hjl] at hbjl; have Hjl := hid hjl; clear hjl; have HSm := hid hS; clear hS; have HPL := hid (zh3 a ik jk il jl dk Hil.out Hjl.out (by omega)); by_cases hgt2 : jl < il
       . have hz2 : (jl : Int) < (il : Int) := by omega
         go_wp2_with (fail); go_meet
         case rel => exact ⟨il, dk, rfl, by rw [<- HEk.out, HPL.out, if_pos hgt2], HSm.out⟩
       . have hz2 : ¬ (jl : Int) < (il : Int) := by omega
         obtain ⟨dn, hdn⟩ : ∃ x, x = swp dk il jl := ⟨_, rfl⟩; have Hdn := hid hdn; clear hdn; go_upto_region 8 with (fail); have c0 := HSm.out.2.1.cell il (by have := HSm.out.1; omega); have c1 := HSm.out.2.1.cell jl (by have := HSm.out.1; omega); have hf0 := HSm.out.2.1.free il; have hf1 := HSm.out.2.1.free jl; have hlj := HSm.out.2.1.lt; go_cut [] (fun wx => SoR blk n r w dn wx)
         case first =>
          by_cases heq : il = jl
          . subst heq
            clear c1 hf1
            go_region
            all_goals (go_wp2_with (fail); go_meet)
            case rel => rw [Hdn.out]; exact (HSm.out.drewN _).swap il il (by omega) (by omega)
          have hne' : ¬ jl = il := fun e => heq e.symm
          go_region
          all_goals (go_wp2_with (fail); go_meet)
          case rel => rw [Hdn.out]; exact (HSm.out.drewN _).swap il jl (by omega) (by omega)
         rotate_left 0
         case rest =>
          have HSn := hid hcut; clear hcut c0 c1 hf0 hf1 hlj; go_wp2; go_roundw
          case rel => exact ⟨il + 1, jl - 1, dn, by go_num, by congr 1; omega, by omega, by omega, by omega, by rw [<- HEk.out, HPL.out, if_neg hgt2, Hdn.out], HSn.out⟩
          case measure => (simp [RowKit.intOf] <;> omega)
   case rest =>
    obtain ⟨jf, df, rfl, hPL, hS⟩ := hcut; have HSf := hid hS; have HPL := hid hPL; clear hS hPL; go_wp2; go_ret; have e3 : Sort.partitionEqual ltInt d a b pv = (jf, df) := by
     have ej : j1 = b - 1 := by omega
     unfold Sort.partitionEqual; rw [<- Hd1.out, <- HI1.out, <- ej, HPL.out]
    unfold PeO; rw [HPT.out, e3]; exact ⟨rfl, HSf.out⟩
end
section
open Go.RowKit Go.Lib
open Go.Sort (swp ltInt)
theorem zfa (d : Array Int) (b i : Nat) (h : i < b) (hp : ltInt d[i]! d[i - 1]! = false) : Sort.scanSorted ltInt d b i = Sort.scanSorted ltInt d b (i + 1) := by
 rw [Sort.scanSorted, if_pos (by simp [h, hp])]
theorem zcm (d : Array Int) (b i : Nat) (h : ¬ i < b \/ ltInt d[i]! d[i - 1]! = true) : Sort.scanSorted ltInt d b i = i := by
 rw [Sort.scanSorted, if_neg]
 rcases h with h | h <;> simp [h]
theorem zim (d : Array Int) (b : Nat) : ∀ (n i : Nat), b - i <= n -> i <= b -> i <= Sort.scanSorted ltInt d b i /\ Sort.scanSorted ltInt d b i <= b := by
 intro n
 induction n with
 | zero => intro i h hi; rw [zcm d b i (.inl (by omega))]; omega
 | succ n ih =>
  intro i h hi; by_cases hc : i < b /\ ltInt d[i]! d[i - 1]! = false
  . rw [zfa d b i hc.1 hc.2]
    have := ih (i + 1) (by omega) (by omega); omega
  rw [zcm d b i (by by_cases h1 : i < b <;> simp_all)]; omega
theorem ziY (j : Nat) (d : Array Int) (hj : 0 < j) (h : ltInt d[j]! d[j - 1]! = true) : Sort.shiftDown ltInt j d = Sort.shiftDown ltInt (j - 1) (swp d j (j - 1)) := by
 obtain ⟨j, rfl⟩ : ∃ k, j = k + 1 := ⟨j - 1, by omega⟩; simp only [Nat.add_sub_cancel] at h; rw [Sort.shiftDown, if_neg (by simp [h])]; rfl
theorem zes (j : Nat) (d : Array Int) (h : j = 0 \/ ltInt d[j]! d[j - 1]! = false) : Sort.shiftDown ltInt j d = d := by
 cases j with
 | zero => rfl
 | succ j =>
  rcases h with h | h
  . cases h
  simp only [Nat.add_sub_cancel] at h
  rw [Sort.shiftDown, if_pos (by simp [h])]
theorem zfG (b j : Nat) (d : Array Int) (hj : j < b) (h : ltInt d[j]! d[j - 1]! = true) : Sort.shiftUp ltInt b j d = Sort.shiftUp ltInt b (j + 1) (swp d j (j - 1)) := by
 rw [Sort.shiftUp, if_pos hj, if_neg (by simp [h])]
theorem zcg (b j : Nat) (d : Array Int) (h : ¬ j < b \/ ltInt d[j]! d[j - 1]! = false) : Sort.shiftUp ltInt b j d = d := by
 rw [Sort.shiftUp]
 rcases h with h | h
 . rw [if_neg h]
 split
 . rw [if_pos (by simp [h])]
 rfl
def PiO (PT : Array Int × Bool) (blk n : Nat) (r : List Value) (w : World) (e : Ending) (w' : World) : Prop := e = .returned (.bool PT.2) /\ SoR blk n r w PT.1 w'
theorem zel (blk n cap a b : Nat) (r : List Value) (d : Array Int) (w : World) (hR : za9 w blk d r) (hn : d.size = n) (hab : a < b) (hb : b <= n) (hsz : n < 1000000000) :
 Calls Tryz.prog 120 #[.slice (some ⟨blk, 0, none⟩) n cap, .int .i64 a, .int .i64 b] w (PiO (Sort.partialInsertionSort ltInt d a b) blk n r w) := by
 have hsz1 : (n : Int) < 1000000000 := by omega
 have hb1 : (b : Int) <= n := by omega
 have hab1 : (a : Int) < b := by omega
 have HS0 := hid (SoR.refl (w := w) hR hn); unfold Sort.partialInsertionSort; obtain ⟨PT, hPT⟩ : ∃ x, x = Sort.partialIns ltInt a b 5 (a + 1) d := ⟨_, rfl⟩; have HPT := hid hPT; rw [<- hPT]; clear hR hn hPT; have hwab : IntKind.i64.wrap ((b : Int) - (a : Int)) = (b : Int) - (a : Int) := IntWalk.i64_in _ (by omega); go_enter Tryz.func120, Tryz.ntmps120; go_wp2
 go_loopw [7, 8] (fun s7 s8 wr => ∃ (ik jk : Nat) (dk : Array Int), s7 = .int .i64 ik /\ s8 = .int .i64 jk /\ a + 1 <= ik /\ ik <= b /\ jk <= 5 /\ PT = Sort.partialIns ltInt a b (5 - jk) ik dk /\ SoR blk n r w dk wr) (fun _ s8 _ => 5 - (RowKit.intOf s8).toNat)
 case atStart => exact ⟨a + 1, 0, d, by go_num, rfl, by omega, by omega, by omega, HPT.out, HS0.out⟩
 case round =>
  obtain ⟨ik, jk, dk, rfl, rfl, hik, hikb, hj5, hE, hS⟩ := hrel; have HSk := hid hS; have HEk := hid hE; clear hS hE; by_cases hj : jk < 5; rotate_left
  . have hz : ¬ (jk : Int) < 5 := by omega
    go_wp2; go_ret; have h5 : 5 - jk = 0 := by omega
    unfold PiO; rw [HEk.out, h5]; exact ⟨rfl, HSk.out⟩
  have hz : (jk : Int) < 5 := by omega
  have HEq := hid (show PT = Sort.partialIns ltInt a b ((5 - (jk + 1)) + 1) ik dk by rw [HEk.out]; congr 1; omega); rw [Sort.partialIns_succ] at HEq
  go_upto_block 2 with (fail)
  go_cut [7] (fun s wx => ∃ k : Nat, s = .int .i64 k /\ k = Sort.scanSorted ltInt dk b ik /\ SoR blk n r w dk wx)
  case first =>
   go_wp2; go_loopw [7] (fun s wr => ∃ k : Nat, s = .int .i64 k /\ ik <= k /\ k <= b /\ Sort.scanSorted ltInt dk b k = Sort.scanSorted ltInt dk b ik /\ SoR blk n r w dk wr) (fun s _ => b - (RowKit.intOf s).toNat)
   case atStart => exact ⟨ik, rfl, Nat.le_refl _, hikb, rfl, HSk.out⟩
   case round =>
    obtain ⟨k, rfl, hk1, hk2, hE, hS⟩ := hrel; have HE := hid hE; have HS := hid hS; clear hE hS; by_cases hlt : k < b
    . have hz : (k : Int) < (b : Int) := by omega
      have hzd : decide ((k : Int) < (b : Int)) = true := by simpa using hz
      have hkn : (k : Int) < (n : Int) := by omega
      obtain ⟨p, hp⟩ : ∃ p, p = k - 1 := ⟨_, rfl⟩; have hw : IntKind.i64.wrap ((k : Int) - 1) = (p : Int) := by rw [IntWalk.i64_in _ (by omega)]; omega
      have hpn : (p : Int) < (n : Int) := by omega
      have hgo := zfa dk b k hlt; have hst := zcm dk b k; rw [<- hp] at hgo hst; have HGO := hid hgo; have HST := hid hst; have c0 := HS.out.2.1.cell k (by have := HS.out.1; omega); have c1 := HS.out.2.1.cell p (by have := HS.out.1; omega); clear hp hgo hst; cases hl : ltInt dk[k]! dk[p]! with
      | false =>
       go_wp2; go_quiet ((go_at_call 94; exact Calls.quiet_of_same (zbf _ _ _))); go_wp2; go_roundw
       case rel => exact ⟨k + 1, by go_num, by omega, by omega, by rw [<- HE.out]; exact (HGO.out hl).symm, HS.out.drewN _⟩
       case measure => (simp [RowKit.intOf] <;> omega)
      | true =>
       go_wp2; go_quiet ((go_at_call 94; exact Calls.quiet_of_same (zbf _ _ _))); go_wp2_with (fail); go_meet
       case rel => exact ⟨k, rfl, by rw [<- HE.out]; exact (HST.out (.inr hl)).symm, HS.out.drewN _⟩
    . have hzd : decide ((k : Int) < (b : Int)) = false := by simp; omega
      go_wp2; go_quiet (fail); go_wp2_with (fail); go_meet
      case rel => exact ⟨k, rfl, by rw [<- HE.out]; exact (zcm dk b k (.inl hlt)).symm, HS.out.drewN _⟩
  case rest =>
   obtain ⟨i, rfl, hi, hS⟩ := hcut; have HSl := hid hS; have hib := zim dk b _ ik (Nat.le_refl _) hikb; have HE2 := hid HEq.out; have Hi := hid hi; rw [<- hi] at hib; clear hS hi HEq; by_cases hie : i = b
   . have hz1 : ((i : Int) == (b : Int)) = true := by simp [hie]
     have hE3 : PT = (dk, true) := by rw [HE2.out, <- Hi.out, if_pos hie]
     have HE3 := hid hE3; have HIE := hid hie; clear hie hE3; go_wp2; go_ret; unfold PiO; rw [HE3.out]; exact ⟨rfl, HSl.out⟩
   have hz1 : ((i : Int) == (b : Int)) = false := by simp; omega
   by_cases h50 : b - a < 50
   . have hz2 : (b : Int) - (a : Int) < 50 := by omega
     have hE3 : PT = (dk, false) := by rw [HE2.out, <- Hi.out, if_neg hie, if_pos h50]
     have HE3 := hid hE3; clear hE3; go_wp2; go_ret; unfold PiO; rw [HE3.out]; exact ⟨rfl, HSl.out⟩
   have hz2 : ¬ (b : Int) - (a : Int) < 50 := by omega
   have HE3 : Hid (PT = Sort.partialIns ltInt a b (5 - (jk + 1)) i (Sort.fixUp ltInt b i (Sort.fixDown ltInt a i (swp dk i (i - 1))))) := hid (by rw [HE2.out, <- Hi.out, if_neg hie, if_neg h50]); obtain ⟨p, hp⟩ : ∃ p, p = i - 1 := ⟨_, rfl⟩; have hw : IntKind.i64.wrap ((i : Int) - 1) = (p : Int) := by rw [IntWalk.i64_in _ (by omega)]; omega
   have hin : (i : Int) < (n : Int) := by omega
   have hpn : (p : Int) < (n : Int) := by omega
   have hpi : p < i := by omega
   have hpi1 : i <= p + 1 := by omega
   have Hp := hid hp; clear hp HE2; obtain ⟨d1, hd1⟩ : ∃ x, x = swp dk i p := ⟨_, rfl⟩; have Hd1 := hid hd1; clear hd1; go_upto_region 11 with (fail)
   have c0 := HSl.out.2.1.cell i (by have := HSl.out.1; omega); have c1 := HSl.out.2.1.cell p (by have := HSl.out.1; omega); have hf0 := HSl.out.2.1.free i; have hf1 := HSl.out.2.1.free p; have hlj := HSl.out.2.1.lt; have hne : ¬ i = p := by omega
   have hne' : ¬ p = i := by omega
   go_cut [] (fun wx => SoR blk n r w d1 wx)
   case first =>
    go_region
    all_goals (go_wp2_with (fail); go_meet)
    case rel => rw [Hd1.out]; exact (HSl.out.drewN _).swap i p (by omega) (by omega)
   case rest =>
    have HS1 := hid hcut; clear hcut c0 c1 hf0 hf1 hlj; obtain ⟨ia, hia⟩ : ∃ x, x = i - a := ⟨_, rfl⟩; have hwia : IntKind.i64.wrap ((i : Int) - (a : Int)) = (ia : Int) := by rw [IntWalk.i64_in _ (by omega)]; omega
    have hwia2 : (i : Int) - (a : Int) = (ia : Int) := by omega
    have Hia := hid hia; clear hia; obtain ⟨dF, hdF⟩ : ∃ x, x = Sort.fixDown ltInt a i d1 := ⟨_, rfl⟩; have HdF := hid hdF; clear hdF; by_cases h2 : ia ≥ 2
    . have hz3 : (2 : Int) <= (ia : Int) := by omega
      have HF : Hid (dF = Sort.shiftDown ltInt p d1) := hid (by rw [HdF.out]; unfold Sort.fixDown; rw [if_pos (by rw [<- Hia.out]; exact h2), Hp.out]); clear h2; have HPZ : Hid ((i : Int) - 1 = (p : Int)) := hid (by omega); go_wp2; go_loopw [9] (fun s wr => ∃ (k : Nat) (dl : Array Int), s = .int .i64 k /\ k <= p /\ Sort.shiftDown ltInt k dl = dF /\ SoR blk n r w dl wr) (fun s _ => (RowKit.intOf s).toNat)
      case atStart => exact ⟨p, d1, by first | rfl | rw [HPZ.out], Nat.le_refl _, HF.out.symm, HS1.out⟩
      case round =>
       obtain ⟨k, dl, rfl, hkp, hE, hS⟩ := hrel; have HE := hid hE; have HS := hid hS; clear hE hS; by_cases hk0 : 1 <= k
       . have hz4 : (1 : Int) <= (k : Int) := by omega
         obtain ⟨q, hq⟩ : ∃ q, q = k - 1 := ⟨_, rfl⟩; have hw5 : IntKind.i64.wrap ((k : Int) - 1) = (q : Int) := by rw [IntWalk.i64_in _ (by omega)]; omega
         have hkn : (k : Int) < (n : Int) := by omega
         have hqn : (q : Int) < (n : Int) := by omega
         have hgo := ziY k dl (by omega); have hst := zes k dl; rw [<- hq] at hgo hst; have HGO := hid hgo; have HST := hid hst; have hqk : q < k := by omega
         have hqk1 : k <= q + 1 := by omega
         have c0 := HS.out.2.1.cell k (by have := HS.out.1; omega); have c1 := HS.out.2.1.cell q (by have := HS.out.1; omega); clear hq hgo hst; cases hl : ltInt dl[k]! dl[q]! with
         | false =>
          go_wp2; go_quiet ((go_at_call 94; exact Calls.quiet_of_same (zbf _ _ _))); have HSW : SoR blk n r w dF (wr.drewN nq) := by rw [<- HE.out, HST.out (.inr hl)]; exact HS.out.drewN _
          generalize wr.drewN nq = wq at HSW ⊢; clear c0 c1 HS HE HGO HST hw5 hwia hwia2 hl; obtain ⟨bi, hbi⟩ : ∃ x, x = b - i := ⟨_, rfl⟩; have hwbi : IntKind.i64.wrap ((b : Int) - (i : Int)) = (bi : Int) := by rw [IntWalk.i64_in _ (by omega)]; omega
          have hwbi2 : (b : Int) - (i : Int) = (bi : Int) := by omega
          have Hbi := hid hbi; clear hbi; have HE4 : Hid (PT = Sort.partialIns ltInt a b (5 - (jk + 1)) i (Sort.fixUp ltInt b i dF)) := hid (by rw [HE3.out, <- Hp.out, <- Hd1.out, <- HdF.out]); have HSt := HSW; by_cases h2 : bi ≥ 2
          . have hz3 : (2 : Int) <= (bi : Int) := by omega
            have HF : Hid (Sort.fixUp ltInt b i dF = Sort.shiftUp ltInt b (i + 1) dF) := hid (by unfold Sort.fixUp; rw [if_pos (by rw [<- Hbi.out]; exact h2)]); clear h2; generalize Sort.fixUp ltInt b i dF = dG at *; go_wp2; go_loopw [10] (fun s wr => ∃ (k : Nat) (dl : Array Int), s = .int .i64 k /\ i < k /\ k <= b /\ Sort.shiftUp ltInt b k dl = dG /\ SoR blk n r w dl wr) (fun s _ => b - (RowKit.intOf s).toNat)
            case atStart => exact ⟨i + 1, dF, by go_num, by omega, by omega, HF.out.symm, HSt⟩
            case round =>
             obtain ⟨k, dl, rfl, hki, hkb, hE, hS⟩ := hrel; have HE := hid hE; have HS := hid hS; clear hE hS; by_cases hkb2 : k < b
             . have hz4 : (k : Int) < (b : Int) := by omega
               obtain ⟨q, hq⟩ : ∃ q, q = k - 1 := ⟨_, rfl⟩; have hw5 : IntKind.i64.wrap ((k : Int) - 1) = (q : Int) := by rw [IntWalk.i64_in _ (by omega)]; omega
               have hkn : (k : Int) < (n : Int) := by omega
               have hqn : (q : Int) < (n : Int) := by omega
               have hgo := zfG b k dl hkb2; have hst := zcg b k dl; rw [<- hq] at hgo hst; have HGO := hid hgo; have HST := hid hst; have hqk : q < k := by omega
               have c0 := HS.out.2.1.cell k (by have := HS.out.1; omega); have c1 := HS.out.2.1.cell q (by have := HS.out.1; omega); clear hq hgo hst; cases hl : ltInt dl[k]! dl[q]! with
               | false =>
                go_wp2; go_quiet ((go_at_call 94; exact Calls.quiet_of_same (zbf _ _ _))); go_wp2; go_roundw
                case rel => exact ⟨i, jk + 1, _, rfl, by go_num, by omega, by omega, by omega, by rw [HE4.out, <- HE.out, HST.out (.inr hl)], HS.out.drewN _⟩
                case measure => (simp [RowKit.intOf] <;> omega)
               | true =>
                go_wp2; go_quiet ((go_at_call 94; exact Calls.quiet_of_same (zbf _ _ _))); have HSq := hid (HS.out.drewN nq); generalize wr.drewN nq = wq at HSq ⊢; clear c0 c1 HS; have c0 := HSq.out.2.1.cell k (by have := HSq.out.1; omega); have c1 := HSq.out.2.1.cell q (by have := HSq.out.1; omega); have hf0 := HSq.out.2.1.free k; have hf1 := HSq.out.2.1.free q; have hlj := HSq.out.2.1.lt; have hne : ¬ k = q := by omega
                have hne' : ¬ q = k := by omega
                go_wp2
                go_region
                all_goals go_wp2
                all_goals go_roundw
                case rel => exact ⟨k + 1, swp dl k q, by go_num, by omega, by omega, by rw [<- HE.out, HGO.out hl], (HSq.out.drewN _).swap k q (by omega) (by omega)⟩
                case measure => (simp [RowKit.intOf] <;> omega)
             have hz4 : ¬ (k : Int) < (b : Int) := by omega
             go_wp2; go_roundw
             case rel => exact ⟨i, jk + 1, _, rfl, by go_num, by omega, by omega, by omega, by rw [HE4.out, <- HE.out, zcg b k dl (.inl (by omega))], HS.out⟩
             case measure => (simp [RowKit.intOf] <;> omega)
          . have hz3 : ¬ (2 : Int) <= (bi : Int) := by omega
            have HF : Hid (Sort.fixUp ltInt b i dF = dF) := hid (by unfold Sort.fixUp; rw [if_neg (by rw [<- Hbi.out]; exact h2)]); clear h2; generalize Sort.fixUp ltInt b i dF = dG at *; go_wp2; go_roundw
            case rel => exact ⟨i, jk + 1, _, rfl, by go_num, by omega, by omega, by omega, by rw [HE4.out, HF.out], HSt⟩
            case measure => (simp [RowKit.intOf] <;> omega)
         | true =>
          go_wp2; go_quiet ((go_at_call 94; exact Calls.quiet_of_same (zbf _ _ _))); have HSq := hid (HS.out.drewN nq); generalize wr.drewN nq = wq at HSq ⊢; clear c0 c1 HS; have c0 := HSq.out.2.1.cell k (by have := HSq.out.1; omega); have c1 := HSq.out.2.1.cell q (by have := HSq.out.1; omega); have hf0 := HSq.out.2.1.free k; have hf1 := HSq.out.2.1.free q; have hlj := HSq.out.2.1.lt; have hne : ¬ k = q := by omega
          have hne' : ¬ q = k := by omega
          go_wp2
          go_region
          all_goals go_wp2
          all_goals go_roundw
          case rel => exact ⟨q, swp dl k q, by first | rfl | (congr 1; omega), by omega, by rw [<- HE.out, HGO.out hl], (HSq.out.drewN _).swap k q (by omega) (by omega)⟩
          case measure => (simp [RowKit.intOf] <;> omega)
       have hz4 : ¬ (1 : Int) <= (k : Int) := by omega
       have HSW : SoR blk n r w dF wr := by rw [<- HE.out, zes k dl (.inl (by omega))]; exact HS.out
       clear HS HE hwia hwia2; obtain ⟨bi, hbi⟩ : ∃ x, x = b - i := ⟨_, rfl⟩; have hwbi : IntKind.i64.wrap ((b : Int) - (i : Int)) = (bi : Int) := by rw [IntWalk.i64_in _ (by omega)]; omega
       have hwbi2 : (b : Int) - (i : Int) = (bi : Int) := by omega
       have Hbi := hid hbi; clear hbi; have HE4 : Hid (PT = Sort.partialIns ltInt a b (5 - (jk + 1)) i (Sort.fixUp ltInt b i dF)) := hid (by rw [HE3.out, <- Hp.out, <- Hd1.out, <- HdF.out]); have HSt := HSW; by_cases h2 : bi ≥ 2
       . have hz3 : (2 : Int) <= (bi : Int) := by omega
         have HF : Hid (Sort.fixUp ltInt b i dF = Sort.shiftUp ltInt b (i + 1) dF) := hid (by unfold Sort.fixUp; rw [if_pos (by rw [<- Hbi.out]; exact h2)]); clear h2; generalize Sort.fixUp ltInt b i dF = dG at *; go_wp2; go_loopw [10] (fun s wr => ∃ (k : Nat) (dl : Array Int), s = .int .i64 k /\ i < k /\ k <= b /\ Sort.shiftUp ltInt b k dl = dG /\ SoR blk n r w dl wr) (fun s _ => b - (RowKit.intOf s).toNat)
         case atStart => exact ⟨i + 1, dF, by go_num, by omega, by omega, HF.out.symm, HSt⟩
         case round =>
          obtain ⟨k, dl, rfl, hki, hkb, hE, hS⟩ := hrel; have HE := hid hE; have HS := hid hS; clear hE hS; by_cases hkb2 : k < b
          . have hz4 : (k : Int) < (b : Int) := by omega
            obtain ⟨q, hq⟩ : ∃ q, q = k - 1 := ⟨_, rfl⟩; have hw5 : IntKind.i64.wrap ((k : Int) - 1) = (q : Int) := by rw [IntWalk.i64_in _ (by omega)]; omega
            have hkn : (k : Int) < (n : Int) := by omega
            have hqn : (q : Int) < (n : Int) := by omega
            have hgo := zfG b k dl hkb2; have hst := zcg b k dl; rw [<- hq] at hgo hst; have HGO := hid hgo; have HST := hid hst; have hqk : q < k := by omega
            have c0 := HS.out.2.1.cell k (by have := HS.out.1; omega); have c1 := HS.out.2.1.cell q (by have := HS.out.1; omega); clear hq hgo hst; cases hl : ltInt dl[k]! dl[q]! with
            | false =>
             go_wp2; go_quiet ((go_at_call 94; exact Calls.quiet_of_same (zbf _ _ _))); go_wp2; go_roundw
             case rel => exact ⟨i, jk + 1, _, rfl, by go_num, by omega, by omega, by omega, by rw [HE4.out, <- HE.out, HST.out (.inr hl)], HS.out.drewN _⟩
             case measure => (simp [RowKit.intOf] <;> omega)
            | true =>
             go_wp2; go_quiet ((go_at_call 94; exact Calls.quiet_of_same (zbf _ _ _))); have HSq := hid (HS.out.drewN nq); generalize wr.drewN nq = wq at HSq ⊢; clear c0 c1 HS; have c0 := HSq.out.2.1.cell k (by have := HSq.out.1; omega); have c1 := HSq.out.2.1.cell q (by have := HSq.out.1; omega); have hf0 := HSq.out.2.1.free k; have hf1 := HSq.out.2.1.free q; have hlj := HSq.out.2.1.lt; have hne : ¬ k = q := by omega
             have hne' : ¬ q = k := by omega
             go_wp2
             go_region
             all_goals go_wp2
             all_goals go_roundw
             case rel => exact ⟨k + 1, swp dl k q, by go_num, by omega, by omega, by rw [<- HE.out, HGO.out hl], (HSq.out.drewN _).swap k q (by omega) (by omega)⟩
             case measure => (simp [RowKit.intOf] <;> omega)
          have hz4 : ¬ (k : Int) < (b : Int) := by omega
          go_wp2; go_roundw
          case rel => exact ⟨i, jk + 1, _, rfl, by go_num, by omega, by omega, by omega, by rw [HE4.out, <- HE.out, zcg b k dl (.inl (by omega))], HS.out⟩
          case measure => (simp [RowKit.intOf] <;> omega)
       have hz3 : ¬ (2 : Int) <= (bi : Int) := by omega
       have HF : Hid (Sort.fixUp ltInt b i dF = dF) := hid (by unfold Sort.fixUp; rw [if_neg (by rw [<- Hbi.out]; exact h2)]); clear h2; generalize Sort.fixUp ltInt b i dF = dG at *; go_wp2; go_roundw
       case rel => exact ⟨i, jk + 1, _, rfl, by go_num, by omega, by omega, by omega, by rw [HE4.out, HF.out], HSt⟩
       case measure => (simp [RowKit.intOf] <;> omega)
    have hz3 : ¬ (2 : Int) <= (ia : Int) := by omega
    have HF : Hid (dF = d1) := hid (by rw [HdF.out]; unfold Sort.fixDown; rw [if_neg (by rw [<- Hia.out]; exact h2)]); clear h2; have HSW : SoR blk n r w dF wc := by rw [HF.out]; exact HS1.out
    obtain ⟨bi, hbi⟩ : ∃ x, x = b - i := ⟨_, rfl⟩; have hwbi : IntKind.i64.wrap ((b : Int) - (i : Int)) = (bi : Int) := by rw [IntWalk.i64_in _ (by omega)]; omega
    have hwbi2 : (b : Int) - (i : Int) = (bi : Int) := by omega
    have Hbi := hid hbi; clear hbi; have HE4 : Hid (PT = Sort.partialIns ltInt a b (5 - (jk + 1)) i (Sort.fixUp ltInt b i dF)) := hid (by rw [HE3.out, <- Hp.out, <- Hd1.out, <- HdF.out]); have HSt := HSW; by_cases h2 : bi ≥ 2
    . have hz3 : (2 : Int) <= (bi : Int) := by omega
      have HF : Hid (Sort.fixUp ltInt b i dF = Sort.shiftUp ltInt b (i + 1) dF) := hid (by unfold Sort.fixUp; rw [if_pos (by rw [<- Hbi.out]; exact h2)]); clear h2; generalize Sort.fixUp ltInt b i dF = dG at *; go_wp2; go_loopw [10] (fun s wr => ∃ (k : Nat) (dl : Array Int), s = .int .i64 k /\ i < k /\ k <= b /\ Sort.shiftUp ltInt b k dl = dG /\ SoR blk n r w dl wr) (fun s _ => b - (RowKit.intOf s).toNat)
      case atStart => exact ⟨i + 1, dF, by go_num, by omega, by omega, HF.out.symm, HSt⟩
      case round =>
       obtain ⟨k, dl, rfl, hki, hkb, hE, hS⟩ := hrel; have HE := hid hE; have HS := hid hS; clear hE hS; by_cases hkb2 : k < b
       . have hz4 : (k : Int) < (b : Int) := by omega
         obtain ⟨q, hq⟩ : ∃ q, q = k - 1 := ⟨_, rfl⟩; have hw5 : IntKind.i64.wrap ((k : Int) - 1) = (q : Int) := by rw [IntWalk.i64_in _ (by omega)]; omega
         have hkn : (k : Int) < (n : Int) := by omega
         have hqn : (q : Int) < (n : Int) := by omega
         have hgo := zfG b k dl hkb2; have hst := zcg b k dl; rw [<- hq] at hgo hst; have HGO := hid hgo; have HST := hid hst; have hqk : q < k := by omega
         have c0 := HS.out.2.1.cell k (by have := HS.out.1; omega); have c1 := HS.out.2.1.cell q (by have := HS.out.1; omega); clear hq hgo hst; cases hl : ltInt dl[k]! dl[q]! with
         | false =>
          go_wp2; go_quiet ((go_at_call 94; exact Calls.quiet_of_same (zbf _ _ _))); go_wp2; go_roundw
          case rel => exact ⟨i, jk + 1, _, rfl, by go_num, by omega, by omega, by omega, by rw [HE4.out, <- HE.out, HST.out (.inr hl)], HS.out.drewN _⟩
          case measure => (simp [RowKit.intOf] <;> omega)
         | true =>
          go_wp2; go_quiet ((go_at_call 94; exact Calls.quiet_of_same (zbf _ _ _))); have HSq := hid (HS.out.drewN nq); generalize wr.drewN nq = wq at HSq ⊢; clear c0 c1 HS; have c0 := HSq.out.2.1.cell k (by have := HSq.out.1; omega); have c1 := HSq.out.2.1.cell q (by have := HSq.out.1; omega); have hf0 := HSq.out.2.1.free k; have hf1 := HSq.out.2.1.free q; have hlj := HSq.out.2.1.lt; have hne : ¬ k = q := by omega
          have hne' : ¬ q = k := by omega
          go_wp2
          go_region
          all_goals go_wp2
          all_goals go_roundw
          case rel => exact ⟨k + 1, swp dl k q, by go_num, by omega, by omega, by rw [<- HE.out, HGO.out hl], (HSq.out.drewN _).swap k q (by omega) (by omega)⟩
          case measure => (simp [RowKit.intOf] <;> omega)
       have hz4 : ¬ (k : Int) < (b : Int) := by omega
       go_wp2; go_roundw
       case rel => exact ⟨i, jk + 1, _, rfl, by go_num, by omega, by omega, by omega, by rw [HE4.out, <- HE.out, zcg b k dl (.inl (by omega))], HS.out⟩
       case measure => (simp [RowKit.intOf] <;> omega)
    have hz3 : ¬ (2 : Int) <= (bi : Int) := by omega
    have HF : Hid (Sort.fixUp ltInt b i dF = dF) := hid (by unfold Sort.fixUp; rw [if_neg (by rw [<- Hbi.out]; exact h2)]); clear h2; generalize Sort.fixUp ltInt b i dF = dG at *; go_wp2; go_roundw
    case rel => exact ⟨i, jk + 1, _, rfl, by go_num, by omega, by omega, by omega, by rw [HE4.out, HF.out], HSt⟩
    case measure => (simp [RowKit.intOf] <;> omega)
end
section
open Go.RowKit Go.Lib
open Go.Sort (swp ltInt)
def zeW (w : World) (b : Nat) (s : Int) : Prop := w.heap[b]? = some (.cells #[.int .i64 s] 3 (0, 0))
theorem zeW.cell {w : World} {b : Nat} {s : Int} (h : zeW w b s) : w.cell? ⟨b, 0, none⟩ = some (.int .i64 s) := by rw [zab w b 0 _ _ _ h]; rfl
theorem zeW.set {w : World} {b : Nat} {s : Int} (h : zeW w b s) (t : Int) : zeW (w.setCell ⟨b, 0, none⟩ (.int .i64 t)) b t := by
 unfold zeW at h ⊢; rw [zac w b 0 _ _ _ _ h]; rfl
theorem za9.grown {w w' : World} {b g : Nat} {d : Array Int} {r : List Value} (h : za9 w b d r) (hg : w.grownBy w' (some g)) (hne : b ≠ g) : za9 w' b d r :=
 (hg.block b h.lt (fun e => hne (by cases e; rfl))).trans h
def O2 (a b : Nat) (sb : Nat) (s : Nat) (w : World) (e : Ending) (w' : World) : Prop :=
 ∃ (x y s' : Nat), e = .returned (.tuple #[.int .i64 x, .int .i64 y]) /\ ((x = a /\ y = b) \/ (x = b /\ y = a)) /\ s' <= s + 1 /\ zeW w' sb s' /\ w.grownBy w' (some sb)
theorem zal {a b : World} {row : Option Nat} (h : a.grownBy b row) (n : Nat) : a.grownBy (b.drewN n) row := ⟨h.os, h.tape, h.output, h.size, h.block⟩
theorem zce (w : World) (b i : Nat) (u : Value) : w.grownBy (w.setCell ⟨b, i, none⟩ u) (some b) :=
 ⟨rfl, rfl, rfl, by simp [World.setCell], fun k _ hr => zaf _ _ _ _ (fun e => hr (by rw [e]))⟩
theorem zfv (blk n cap a b sb s : Nat) (r : List Value) (d : Array Int) (w : World) (hR : za9 w blk d r) (hn : d.size = n) (ha : a < n) (hb : b < n) (hsz : n < 1000000000) (hs : zeW w sb s) (hs9 : s < 1000) :
 Calls Tryz.prog 168 #[.slice (some ⟨blk, 0, none⟩) n cap, .int .i64 a, .int .i64 b, .pointer (some ⟨sb, 0, none⟩)] w (O2 a b sb s w) := by
 have han : (a : Int) < n := by omega
 have hbn : (b : Int) < n := by omega
 have hsn : (s : Int) < 1000 := by omega
 have hnn : (n : Int) < 1000000000 := by omega
 have c0 := hR.cell a (by omega); have c1 := hR.cell b (by omega); have HS := hid hs; have f0 := zae w sb 0 _ _ hs; have hc := hs.cell; have hl0 := zaa hs; clear hR hn hs; go_enter Tryz.func168, Tryz.ntmps168; go_wp2; go_quiet ((go_at_call 94; exact Calls.quiet_of_same (zbf _ _ _))); clear han hbn hnn c0 c1; go_wp2
 . go_ret2
   exact ⟨b, a, s + 1, rfl, .inr ⟨rfl, rfl⟩, Nat.le_refl _, zeW.set (w := w.drewN nq) HS.out _, zad (zal (zaZ w (some sb)) nq) (zce (w.drewN nq) sb 0 _)⟩
 go_ret2
 exact ⟨a, b, s, rfl, .inl ⟨rfl, rfl⟩, by omega, HS.out, zal (zaZ _ _) _⟩
def M3 (a b c : Nat) (sb : Nat) (s : Nat) (w : World) (e : Ending) (w' : World) : Prop :=
 ∃ (x s' : Nat), e = .returned (.int .i64 x) /\ (x = a \/ x = b \/ x = c) /\ s' <= s + 3 /\ zeW w' sb s' /\ w.grownBy w' (some sb)
theorem zfy (blk n cap a b c sb s : Nat) (r : List Value) (d : Array Int) (w : World) (hR : za9 w blk d r) (hn : d.size = n) (ha : a < n) (hb : b < n) (hc : c < n) (hsz : n < 1000000000) (hs : zeW w sb s) (hs9 : s < 900) (hne : blk ≠ sb) :
 Calls Tryz.prog 148 #[.slice (some ⟨blk, 0, none⟩) n cap, .int .i64 a, .int .i64 b, .int .i64 c, .pointer (some ⟨sb, 0, none⟩)] w (M3 a b c sb s w) := by
 have HR := hid hR; have HN := hid hn; have HS := hid hs; clear hR hn hs; go_enter Tryz.func148, Tryz.ntmps148; go_wp2_with (fail); refine (zfv blk n cap a b sb s r d w HR.out HN.out ha hb hsz HS.out (by omega)).mono ?_; rintro e w1 ⟨x1, y1, s1, rfl, hx1, hs1, hI1, hg1⟩; have HR1 := hid (HR.out.grown hg1 hne); have HI1 := hid hI1; have HG1 := hid hg1; clear hI1 hg1; go_wp2_with (fail); refine (zfv blk n cap y1 c sb s1 r d w1 HR1.out HN.out (by omega) hc hsz HI1.out (by omega)).mono ?_; rintro e w2 ⟨x2, y2, s2, rfl, hx2, hs2, hI2, hg2⟩
 have HR2 := hid (HR1.out.grown hg2 hne); have HI2 := hid hI2; have HG2 := hid hg2; clear hI2 hg2; go_wp2_with (fail); refine (zfv blk n cap x1 x2 sb s2 r d w2 HR2.out HN.out (by omega) (by omega) hsz HI2.out (by omega)).mono ?_; rintro e w3 ⟨x3, y3, s3, rfl, hx3, hs3, hI3, hg3⟩; have HI3 := hid hI3; have HG3 := hid hg3; clear hI3 hg3; have HX := hid (And.intro hx1 (And.intro hx2 hx3)); clear hx1 hx2 hx3; go_wp2_with (fail); go_ret; refine ⟨y3, s3, rfl, ?_, by omega, HI3.out, zad HG1.out (zad HG2.out HG3.out)⟩; have := HX.out; omega
theorem zco (blk n cap a sb s : Nat) (r : List Value) (d : Array Int) (w : World) (hR : za9 w blk d r) (hn : d.size = n) (ha0 : 0 < a) (ha : a + 1 < n) (hsz : n < 1000000000) (hs : zeW w sb s) (hs9 : s < 900) (hne : blk ≠ sb) :
 Calls Tryz.prog 147 #[.slice (some ⟨blk, 0, none⟩) n cap, .int .i64 a, .pointer (some ⟨sb, 0, none⟩)] w (M3 (a - 1) a (a + 1) sb s w) := by
 have hM := zfy blk n cap (a - 1) a (a + 1) sb s r d w hR hn (by omega) (by omega) ha hsz hs hs9 hne; obtain ⟨p, hp⟩ : ∃ p, p = a - 1 := ⟨_, rfl⟩; obtain ⟨q, hq⟩ : ∃ q, q = a + 1 := ⟨_, rfl⟩; rw [<- hp, <- hq] at hM ⊢; have han : (a : Int) < 1000000000 := by omega
 have hw1 : (a : Int) - 1 = (p : Int) := by omega
 have hw2 : (a : Int) + 1 = (q : Int) := by omega
 clear hR hn hs hp hq; go_enter Tryz.func147, Tryz.ntmps147; go_wp2_with (fail); refine hM.mono ?_; rintro e w1 ⟨x, s1, rfl, hx, hs1, hI, hg⟩; have HI := hid hI; have HG := hid hg; have HX := hid hx; clear hI hg hx; go_wp2_with (fail); go_ret; exact ⟨x, s1, rfl, HX.out, hs1, HI.out, HG.out⟩
def CP (a b : Nat) (w : World) (e : Ending) (w' : World) : Prop :=
 ∃ (p h : Nat), e = .returned (.tuple #[.int .i64 p, .int .i64 h]) /\ a <= p /\ p < b /\ h <= 2 /\ Below w.heap.size w w'
theorem zc4 {w w1 w2 : World} {b : Nat} (h : Below w.heap.size w w1) (hg : w1.grownBy w2 (some b)) (hb : w.heap.size <= b) : Below w.heap.size w w2 :=
 h.grown hg h.size (fun k e => by cases e; exact hb)
theorem CP.mk {a b : Nat} {w w' : World} (p h : Nat) (h1 : a <= p) (h2 : p < b) (h3 : h <= 2) (h4 : Below w.heap.size w w') : CP a b w (.returned (.tuple #[.int .i64 p, .int .i64 h])) w' := ⟨p, h, rfl, h1, h2, h3, h4⟩
theorem zi0 (s : Nat) : ((s : Int) == 0) = true \/ (((s : Int) == 0) = false /\ ((s : Int) == 12) = true) \/ (((s : Int) == 0) = false /\ ((s : Int) == 12) = false) := by
 cases ((s : Int) == 0) <;> cases ((s : Int) == 12) <;> simp
theorem zgL (blk n cap a b : Nat) (r : List Value) (d : Array Int) (w : World) (hR : za9 w blk d r) (hn : d.size = n) (hab : a + 8 <= b) (hb : b <= n) (hsz : n < 1000000000) :
 Calls Tryz.prog 118 #[.slice (some ⟨blk, 0, none⟩) n cap, .int .i64 a, .int .i64 b] w (CP a b w) := by
 have HR := hid hR; have HN := hid hn; have hlt := hR.lt; obtain ⟨l, hl⟩ : ∃ l, l = b - a := ⟨_, rfl⟩; obtain ⟨q, hq⟩ : ∃ q, q = l / 4 := ⟨_, rfl⟩; have hw0 : IntKind.i64.wrap ((b : Int) - (a : Int)) = (l : Int) := by rw [IntWalk.i64_in _ (by omega)]; omega
 have hw0' : (b : Int) - (a : Int) = (l : Int) := by omega
 have hw1 : (l : Int) / 4 = (q : Int) := by omega
 have hl0 : (0 : Int) <= (l : Int) := by omega
 obtain ⟨i, hi⟩ : ∃ i, i = a + q := ⟨_, rfl⟩; obtain ⟨j, hj⟩ : ∃ j, j = a + q * 2 := ⟨_, rfl⟩; obtain ⟨k, hk⟩ : ∃ k, k = a + q * 3 := ⟨_, rfl⟩; have hwi : (a : Int) + (q : Int) = (i : Int) := by omega
 have hwj : (a : Int) + (q : Int) * 2 = (j : Int) := by omega
 have hwk : (a : Int) + (q : Int) * 3 = (k : Int) := by omega
 have hqn : (q : Int) < 1000000000 := by omega
 have han : (a : Int) < 1000000000 := by omega
 have hB0 := (Below.refl w.heap.size w).alloc (Nat.le_refl _) (.cells #[.int .i64 0] 3); have hS0 : zeW (w.alloc (.cells #[.int .i64 0] 3)) w.heap.size 0 := by unfold zeW; rw [zap, if_pos rfl]
 have hR0 : za9 (w.alloc (.cells #[.int .i64 0] 3)) blk d r := (hB0.block blk hlt).trans hR; have h8 : (8 : Int) <= (l : Int) := by omega
 have hin : a < i /\ i + 1 < b /\ a < j /\ j + 1 < b /\ a < k /\ k + 1 < b := by omega
 have HL := hid (And.intro hl (And.intro hq hab)); have hne : blk ≠ w.heap.size := by omega
 clear hR hn hl hq hi hj hk; have HB0 := hid hB0; have HS0 := hid hS0; have HR0 := hid hR0; clear hB0 hS0 hR0; go_enter Tryz.func118, Tryz.ntmps118; by_cases h50 : 50 <= l
 . have h50z : (50 : Int) <= (l : Int) := by omega
   go_wp2_with (fail); refine (zco blk n cap i w.heap.size 0 r d _ HR0.out HN.out (by omega) (by omega) hsz HS0.out (by omega) hne).mono ?_; rintro e w1 ⟨x1, s1, rfl, hx1, hs1, hI1, hg1⟩; have HR1 := hid (HR0.out.grown hg1 hne); have HB1 := hid (zc4 HB0.out hg1 (Nat.le_refl _)); have HI1 := hid hI1; clear hI1 hg1; go_wp2_with (fail); refine (zco blk n cap j w.heap.size s1 r d w1 HR1.out HN.out (by omega) (by omega) hsz HI1.out (by omega) hne).mono ?_; rintro e w2 ⟨x2, s2, rfl, hx2, hs2, hI2, hg2⟩; have HR2 := hid (HR1.out.grown hg2 hne)
   have HB2 := hid (zc4 HB1.out hg2 (Nat.le_refl _)); have HI2 := hid hI2; clear hI2 hg2; go_wp2_with (fail); refine (zco blk n cap k w.heap.size s2 r d w2 HR2.out HN.out (by omega) (by omega) hsz HI2.out (by omega) hne).mono ?_; rintro e w3 ⟨x3, s3, rfl, hx3, hs3, hI3, hg3⟩; have HR3 := hid (HR2.out.grown hg3 hne); have HB3 := hid (zc4 HB2.out hg3 (Nat.le_refl _)); have HI3 := hid hI3; clear hI3 hg3; go_wp2_with (fail)
   refine (zfy blk n cap x1 x2 x3 w.heap.size s3 r d w3 HR3.out HN.out (by omega) (by omega) (by omega) hsz HI3.out (by omega) hne).mono ?_; rintro e w4 ⟨x, s, rfl, hx, hs, hI, hg⟩; have HB4 := hid (zc4 HB3.out hg (Nat.le_refl _)); have hc := hI.cell; have hxx : a <= x /\ x < b := by omega
   clear hI hg hx1 hx2 hx3 hx hs hs1 hs2 hs3
   rcases zi0 s with h | ⟨h, h'⟩ | ⟨h, h'⟩
   . go_wp2_with (fail)
     go_ret2
     exact CP.mk x 1 hxx.1 hxx.2 (by omega) HB4.out
   . go_wp2_with (fail)
     go_ret2
     exact CP.mk x 2 hxx.1 hxx.2 (by omega) HB4.out
   go_wp2_with (fail)
   go_ret2
   exact CP.mk x 0 hxx.1 hxx.2 (by omega) HB4.out
 have h50z : ¬ (50 : Int) <= (l : Int) := by omega
 go_wp2_with (fail); refine (zfy blk n cap i j k w.heap.size 0 r d _ HR0.out HN.out (by omega) (by omega) (by omega) hsz HS0.out (by omega) hne).mono ?_; rintro e w4 ⟨x, s, rfl, hx, hs, hI, hg⟩; have HB4 := hid (zc4 HB0.out hg (Nat.le_refl _)); have hc := hI.cell; have hxx : a <= x /\ x < b := by omega
 clear hI hg hx hs
 rcases zi0 s with h | ⟨h, h'⟩ | ⟨h, h'⟩
 . go_wp2_with (fail)
   go_ret2
   exact CP.mk x 1 hxx.1 hxx.2 (by omega) HB4.out
 . go_wp2_with (fail)
   go_ret2
   exact CP.mk x 2 hxx.1 hxx.2 (by omega) HB4.out
 go_wp2_with (fail)
 go_ret2
 exact CP.mk x 0 hxx.1 hxx.2 (by omega) HB4.out
end
end Go.Proofs.YtghpmhllpaheiaaGreatDoor
