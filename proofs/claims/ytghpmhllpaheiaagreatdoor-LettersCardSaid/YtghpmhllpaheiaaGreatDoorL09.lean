/-
  Part of the proof: So11. No condition beyond those in the statements.
-/
import Derived.Lib.SliceRun
import Derived.Sort.Row
import Derived.Test.YtghpmhllpaheiaaGreatDoorL07
set_option linter.unusedVariables false
set_option linter.unusedSimpArgs false
set_option maxRecDepth 100000
set_option maxHeartbeats 4000000
namespace Go.Proofs.YtghpmhllpaheiaaGreatDoor
open Go.RowKit
open Go.Sort (swp ltInt)
def zby (p : Int) : List Int -> List Int
 | [] => []
 | x :: r => if x = p then zby x r else x :: zby x r
def zgw : List Int -> List Int
 | [] => []
 | x :: r => x :: zby x r
theorem zeN : ∀ (l : List Int) (p x : Int), zby p (l ++ [x]) = zby p l ++ (if x = (l.getLast?).getD p then [] else [x])
 | [], p, x => by simp [zby]; split <;> simp_all
 | y :: r, p, x => by
  have h : (y :: r).getLast?.getD p = (r.getLast?).getD y := by
   rw [List.getLast?_cons]; simp
  rw [h]; simp only [List.cons_append, zby]; rw [zeN r y x]; split <;> simp
theorem zkS (l : List Int) (x p : Int) (h : l.getLast? = some p) : zgw (l ++ [x]) = zgw l ++ (if x = p then [] else [x]) := by
 cases l with
 | nil => cases h
 | cons y r =>
  simp only [List.cons_append, zgw]; rw [zeN]; have : (r.getLast?).getD y = p := by
   rw [List.getLast?_cons] at h; simpa using h
  rw [this]
theorem zcn (d : Array Int) (k : Nat) (h : k < d.size) : d.toList.take (k + 1) = d.toList.take k ++ [d[k]!] := by
 rw [List.take_succ_eq_append_getElem (by simpa using h)]; congr 2; rw [getElem!_pos d k h]; simp
theorem last_take (d : Array Int) (k : Nat) (h : k < d.size) : (d.toList.take (k + 1)).getLast? = some d[k]! := by
 rw [zcn d k h, List.getLast?_append]; simp
theorem ziI (d : Array Int) (k : Nat) (h0 : 0 < k) (h : k < d.size) : zgw (d.toList.take (k + 1)) = zgw (d.toList.take k) ++ (if d[k]! = d[k - 1]! then [] else [d[k]!]) := by
 obtain ⟨j, rfl⟩ : ∃ j, k = j + 1 := ⟨k - 1, by omega⟩; rw [zcn d (j + 1) h, zkS _ _ d[j]! (last_take d j (by omega))]; rfl
theorem zdd (b : Nat) : ∀ (vs : List Value) (o : Nat) (w : World) (c : Array Value) (t : TypeId), w.heap[b]? = some (.cells c t (0, 0)) ->
 (∃ c', (w.setCells b o vs).heap[b]? = some (.cells c' t (0, 0)) /\ c'.size = c.size /\ ∀ i, i < o -> c'[i]? = c[i]?) /\ w.grownBy (w.setCells b o vs) (some b)
 | [], o, w, c, t, h => ⟨⟨c, h, rfl, fun _ _ => rfl⟩, zaZ _ _⟩
 | v :: r, o, w, c, t, h => by
  obtain ⟨⟨c', h1, h2, h3⟩, hg⟩ := zdd b r (o + 1) (w.setCell ⟨b, o, none⟩ v) _ t (zac w b o v c t _ h); refine ⟨⟨c', h1, by rw [h2]; simp, fun i hi => ?_⟩, zad (zce w b o v) hg⟩; rw [h3 i (by omega), Array.getElem?_setIfInBounds_ne (by omega)]
def CoO (blk : Nat) (cap : Nat) (d : Array Int) (w : World) (e : Ending) (w' : World) : Prop :=
 ∃ (d' : Array Int) (r' : List Value), e = .returned (.slice (some ⟨blk, 0, none⟩) d'.size cap) /\ d'.toList = zgw d.toList /\ za9 w' blk d' r' /\ w.grownBy w' (some blk)
theorem row_take {w : World} {blk : Nat} {c : Array Value} (d : Array Int) (m : Nat) (hm : m <= d.size) (h : w.heap[blk]? = some (.cells c 21 (0, 0))) (hc : ∀ i, i < m -> c[i]? = some (.int .i32 d[i]!)) :
 za9 w blk (d.extract 0 m) (c.toList.drop m) := by
 unfold za9; rw [h]; congr 2; apply Array.ext'; simp only; have : c.toList.take m = ((d.extract 0 m).toList.map (Value.int .i32)) := by
  apply List.ext_getElem?; intro i
  rcases Nat.lt_or_ge i m with hi | hi
  . rw [List.getElem?_take_of_lt hi, Array.getElem?_toList, hc i hi]
    simp [hm, hi]; exact getElem!_pos d i (by omega)
  rw [List.getElem?_eq_none (by simp; omega), List.getElem?_eq_none (by simp; omega)]
 rw [<- this, List.take_append_drop]
theorem zje (d : Array Int) (k : Nat) (h : k < d.size) (x : Int) : (d.setIfInBounds k x).toList.take (k + 1) = d.toList.take k ++ [x] := by
 rw [zcn _ k (by simpa using h)]; congr 1
 . rw [Array.toList_setIfInBounds, List.take_set_of_le (Nat.le_refl _)]
 simp [h]
theorem zjt (blk n cap : Nat) (r : List Value) (d : Array Int) (w : World) (hR : za9 w blk d r) (hn : d.size = n) (h2 : 2 <= n) (hcap : n <= cap) (hsz : n < 1000000) :
 Calls Tryz.prog 84 #[.slice (some ⟨blk, 0, none⟩) n cap] w (CoO blk cap d w) := by
 have hnz : (n : Int) < 1000000 := by omega
 have hcz : (n : Int) <= (cap : Int) := by omega
 have hz2 : ¬ (n : Int) < 2 := by omega
 have HR := Lib.hid hR; have HN := Lib.hid hn; clear hR hn; go_enter Tryz.func84, Tryz.ntmps84; go_wp2_with (fail); go_loopw [3] (fun s3 wr => ∃ k : Nat, s3 = .int .i64 k /\ 1 <= k /\ k <= n /\ zgw (d.toList.take k) = d.toList.take k /\ SoR blk n r w d wr) (fun s3 _ => n - (RowKit.intOf s3).toNat)
 case atStart => exact ⟨1, rfl, by omega, by omega, by rw [zcn d 0 (by have := HN.out; omega)]; rfl, SoR.refl HR.out HN.out⟩
 case round =>
  obtain ⟨k, rfl, hk1, hkn, hE, hS⟩ := hrel; have HE := Lib.hid hE; have HS := Lib.hid hS; clear hE hS; by_cases hlt : k < n
  . have hz : (k : Int) < (n : Int) := by omega
    obtain ⟨p, hp⟩ : ∃ p, p = k - 1 := ⟨_, rfl⟩; have hw : IntKind.i64.wrap ((k : Int) - 1) = (p : Int) := by rw [IntWalk.i64_in _ (by omega)]; omega
    have hpn : (p : Int) < (n : Int) := by omega
    have c0 := HS.out.2.1.cell k (by have := HN.out; omega); have c1 := HS.out.2.1.cell p (by have := HN.out; omega); have hst := ziI d k (by omega) (by have := HN.out; omega); rw [<- hp, HE.out] at hst; have HST := Lib.hid hst; clear hp hst; cases he : (d[k]! == d[p]!) with
    | false =>
     have hne : d[k]! ≠ d[p]! := by simpa using he
     have HNE := Lib.hid hne; clear hne; go_wp2_with (fail); go_quiet (fail); go_wp2_with (fail); go_roundw
     case rel => exact ⟨k + 1, by go_num, by omega, by omega, by rw [HST.out, if_neg HNE.out, zcn d k (by have := HN.out; omega)], HS.out.drewN _⟩
     case measure => (simp [RowKit.intOf] <;> omega)
    | true =>
     have heq : d[k]! = d[p]! := by simpa using he
     have HEQ := Lib.hid heq; clear heq; go_wp2_with (fail); go_quiet (fail); have HS2 := Lib.hid (HS.out.drewN nq); generalize wr.drewN nq = w2 at HS2 ⊢; clear c0 c1 HS; go_wp2_with (fail); have hcl : ∀ (ty : TypeId) (w3 : World) (kk : Nat) (dk : Array Int), dk.size = n -> za9 w3 blk dk r -> kk < n -> (Builtin.clear_ #[73] ty #[.slice (some ⟨blk, kk, none⟩) (n - kk) (cap - kk)]).run Tryz.prog w3 = .ok (.tuple #[]) (w3.setCells blk kk (List.replicate (n - kk) (.int .i32 0))) := by
      intro ty w3 kk dk hdk hrow hkk; exact Lib.run_clear_slice w3 _ _ ty _ Tryz.underlying73 Tryz.zeroValue21 rfl rfl blk kk _ _ (by omega) (fun j hj => by rw [hrow.cell (kk + j) (by omega)]; rfl) (fun j hj => hrow.free _)
     have HCL := Lib.hid hcl; clear hcl; go_loopw [3, 5] (fun s3 s5 wr => ∃ (kk k2 : Nat) (dk : Array Int), s3 = .int .i64 kk /\ s5 = .int .i64 k2 /\ 1 <= k2 /\ k + k2 <= n /\ kk < k + k2 /\ SoR blk n r w dk wr /\ (∀ i, k + k2 <= i + 1 -> i < n -> dk[i]! = d[i]!) /\ dk.toList.take kk = zgw (d.toList.take (k + k2))) (fun _ s5 _ => n - (RowKit.intOf s5).toNat)
     case atStart => exact ⟨k, 1, d, rfl, rfl, by omega, by omega, by omega, HS2.out, fun i _ _ => rfl, by rw [HST.out, if_pos HEQ.out, List.append_nil]⟩
     case round =>
      obtain ⟨kk, k2, dk, rfl, rfl, h21, h2n, hkk, hS, hsame, hE2⟩ := hrel; have HSk := Lib.hid hS; have HSA := Lib.hid hsame; have HE2 := Lib.hid hE2; clear hS hsame hE2; by_cases hl2 : k + k2 < n
      . obtain ⟨j, hj⟩ : ∃ j, j + 1 = k2 := ⟨k2 - 1, by omega⟩
        have hw2 : IntKind.i64.wrap ((k2 : Int) - 1) = (j : Int) := by rw [IntWalk.i64_in _ (by omega)]; omega
        have hz3 : (k2 : Int) < ((n - k : Nat) : Int) := by omega
        have hz4 : (j : Int) < ((n - k : Nat) : Int) := by omega
        have hkkn : (kk : Int) < (n : Int) := by omega
        have hcq := HSk.out.2.1.cell (k + k2) (by have := HSk.out.1; omega); have hcq1 := HSk.out.2.1.cell (k + j) (by have := HSk.out.1; omega); rw [HSA.out (k + k2) (by omega) (by omega)] at hcq; rw [HSA.out (k + j) (by omega) (by omega)] at hcq1; have hst2 := ziI d (k + k2) (by omega) (by have := HN.out; omega); rw [show k + k2 - 1 = k + j by omega] at hst2; have HST2 := Lib.hid hst2; have HJ := Lib.hid hj; clear hj hst2; cases he2 : (d[k + k2]! == d[k + j]!) with
        | true =>
         have he2' : (d[k + k2]! != d[k + j]!) = false := by simpa using he2
         have heq2 : d[k + k2]! = d[k + j]! := by simpa using he2
         have HEQ2 := Lib.hid heq2; clear heq2; go_wp2_with (fail); go_quiet (fail); go_wp2_with (fail); go_roundw
         case rel => exact ⟨kk, k2 + 1, dk, rfl, by go_num, by omega, by omega, by omega, HSk.out.drewN _, fun i h1 h2 => HSA.out i (by omega) h2, by rw [HE2.out, <- Nat.add_assoc, HST2.out, if_pos HEQ2.out, List.append_nil]⟩
         case measure => (simp [RowKit.intOf] <;> omega)
        | false =>
         have he2' : (d[k + k2]! != d[k + j]!) = true := by simpa using he2
         have heq2 : d[k + k2]! ≠ d[k + j]! := by simpa using he2
         have HEQ2 := Lib.hid heq2; clear heq2; go_wp2_with (fail); go_quiet (fail); have HS3 := Lib.hid (HSk.out.drewN nq); generalize wr.drewN nq = w3 at HS3 ⊢; clear hcq hcq1 HSk; have hcq := HS3.out.2.1.cell (k + k2) (by have := HS3.out.1; omega); rw [HSA.out (k + k2) (by omega) (by omega)] at hcq; have hck := HS3.out.2.1.cell kk (by have := HS3.out.1; omega); have hfk := HS3.out.2.1.free kk; have hlk := HS3.out.2.1.lt; go_wp2_with (fail); go_roundw
         case rel =>
          refine ⟨kk + 1, k2 + 1, dk.setIfInBounds kk d[k + k2]!, by go_num, by go_num, by omega, by omega, by omega, ⟨by simp; exact HS3.out.1, HS3.out.2.1.set kk (by have := HS3.out.1; omega) _, zad HS3.out.2.2 (zce _ _ _ _)⟩, fun i h1 h2 => ?_, ?_⟩
          . rw [Go.Sort.getElem!_set_other _ _ _ _ (by omega)]
            exact HSA.out i (by omega) h2
          . rw [zje dk kk (by have := HS3.out.1; omega), HE2.out, <- Nat.add_assoc, HST2.out, if_neg HEQ2.out]
         case measure => (simp [RowKit.intOf] <;> omega)
      have hz3 : ¬ (k2 : Int) < ((n - k : Nat) : Int) := by omega
      have hkkn : (kk : Int) <= (n : Int) := by omega
      have hc2 := fun ty => HCL.out ty wr kk dk HSk.out.1 HSk.out.2.1 (by omega); go_wp2_with (fail); go_ret; obtain ⟨⟨c', h1, h3, h4⟩, hg⟩ := zdd blk (List.replicate (n - kk) (.int .i32 0)) kk wr _ _ HSk.out.2.1; have hsz4 := HSk.out.1; refine ⟨dk.extract 0 kk, c'.toList.drop kk, ?_, ?_, row_take dk kk (by omega) h1 fun i hi => ?_, zad HSk.out.2.2 hg⟩
      . have e : (dk.extract 0 kk).size = kk := by simp; omega
        rw [e]; rfl
      . have e : (dk.extract 0 kk).toList = dk.toList.take kk := by simp
        have e2 : d.toList.take (k + k2) = d.toList := by rw [List.take_of_length_le]; have := HN.out; simp; omega
        rw [e, HE2.out, e2]
      rw [h4 i hi]
      have hcc := HSk.out.2.1.cell i (by omega); rw [zab wr blk i _ _ _ HSk.out.2.1] at hcc; exact hcc
  have hz : ¬ (k : Int) < (n : Int) := by omega
  go_wp2; go_ret; have hkn2 : k = n := by omega
  have hall : d.toList.take k = d.toList := by rw [List.take_of_length_le]; have := HN.out; simp; omega
  have e := HE.out; rw [hall] at e; exact ⟨d, r, by rw [HN.out]; rfl, e.symm, HS.out.2.1, HS.out.2.2⟩
end Go.Proofs.YtghpmhllpaheiaaGreatDoor
