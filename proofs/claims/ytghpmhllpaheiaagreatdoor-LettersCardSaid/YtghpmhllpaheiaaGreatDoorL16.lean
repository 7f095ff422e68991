/-
  Part of the proof: Rea3. No condition beyond those in the statements.
-/
import Derived.Laws.EntriesVeiled
import Derived.Test.YtghpmhllpaheiaaGreatDoorL14
set_option linter.unusedVariables false
set_option linter.unusedSimpArgs false
set_option maxRecDepth 100000
set_option maxHeartbeats 4000000
namespace Go.Proofs.YtghpmhllpaheiaaGreatDoor
open Go.RowKit Go.Lib
theorem dfs_lt {G : List Knot} (hwf : ∀ i j, i < G.length -> j ∈ toOf G i -> j < G.length) : ∀ (f : Nat),
 (∀ k l l2, dfs G f k l = some l2 -> k < G.length -> (∀ x ∈ l, x < G.length) -> ∀ x ∈ l2, x < G.length) /\ (∀ r l l2, dfsL G f r l = some l2 -> (∀ x ∈ r, x < G.length) -> (∀ x ∈ l, x < G.length) -> ∀ x ∈ l2, x < G.length) := by
 intro f
 induction f with
 | zero => exact ⟨fun k l l2 h => (by rw [dfs] at h; cases h), fun r l l2 h => (by rw [dfsL] at h; cases h)⟩
 | succ f ih =>
  refine ⟨fun k l l2 h hk hl => ?_, fun r l l2 h hr hl => ?_⟩
  . rw [dfs] at h
    split at h
    . cases h; exact hl
    refine ih.2 _ _ _ h (fun x hx => hwf k x hk hx) (fun x hx => ?_)
    rcases List.mem_append.1 hx with h1 | h1
    . exact hl x h1
    rw [List.mem_singleton] at h1; rw [h1]; exact hk
  cases r with
  | nil => rw [dfsL] at h; cases h; exact hl
  | cons k r =>
   rw [dfsL] at h; split at h
   . cases h
   rename_i s2 e
   exact ih.2 _ _ _ h (fun x hx => hr x (List.mem_cons_of_mem _ hx)) (ih.1 _ _ _ e (hr k (List.mem_cons_self ..)) hl)
def ReachO (G : List Knot) (tag : Nat -> Nat) (adr : List Nat) (vs : List Value) (l2 : List Nat) (w : World) (e : Ending) (w' : World) : Prop :=
 e = .returned (.tuple #[setV (zam G l2), .bool (zbZ G l2)]) /\ ∃ tag', KAt w' tag' adr vs G (fun _ => false) /\ DUpd tag tag' w w'
theorem DUpd.below {tag tag' : Nat -> Nat} {w w' : World} (h : Below w.heap.size w w') (ht : ∀ b, b < w.heap.size -> tag' b = tag b) : DUpd tag tag' w w' := ⟨h.os, h.tape, h.output, h.size, ht, fun b hb _ => h.block b hb⟩
theorem zjH (w : World) (tag : Nat -> Nat) (adr : List Nat) (vs : List Value) (G : List Knot) (seen : Nat -> Bool) (hK : KAt w tag adr vs G seen) :
 ∃ tag', RAt ((((w.alloc (.cells #[.int .u64 0, .int .u64 0] 147)).alloc (.cells #[.bool false] 4)).alloc (.cells #[.slice none 0 0] 134)).alloc (.cells #[zjy (w.heap.size + 1 + 1) (w.heap.size + 1) w.heap.size (w.heap.size + 1 + 1 + 1)] 207)) tag' (w.heap.size + 1 + 1) (w.heap.size + 1) w.heap.size (w.heap.size + 1 + 1 + 1) adr [] false (0, 0) (.slice none 0 0) /\
  KAt ((((w.alloc (.cells #[.int .u64 0, .int .u64 0] 147)).alloc (.cells #[.bool false] 4)).alloc (.cells #[.slice none 0 0] 134)).alloc (.cells #[zjy (w.heap.size + 1 + 1) (w.heap.size + 1) w.heap.size (w.heap.size + 1 + 1 + 1)] 207)) tag' adr vs G seen /\
  DUpd tag tag' w ((((w.alloc (.cells #[.int .u64 0, .int .u64 0] 147)).alloc (.cells #[.bool false] 4)).alloc (.cells #[.slice none 0 0] 134)).alloc (.cells #[zjy (w.heap.size + 1 + 1) (w.heap.size + 1) w.heap.size (w.heap.size + 1 + 1 + 1)] 207)) := by
 have hb : Below w.heap.size w ((((w.alloc (.cells #[.int .u64 0, .int .u64 0] 147)).alloc (.cells #[.bool false] 4)).alloc (.cells #[.slice none 0 0] 134)).alloc (.cells #[zjy (w.heap.size + 1 + 1) (w.heap.size + 1) w.heap.size (w.heap.size + 1 + 1 + 1)] 207)) :=
  ((((Below.refl _ w).alloc (Nat.le_refl _) _).alloc (by simp) _).alloc (by simp; omega) _).alloc (by simp; omega) _
 have ht : ∀ b, b < w.heap.size -> (fun b => if b < w.heap.size then tag b else 8) b = tag b := fun b hb => if_pos hb; refine ⟨fun b => if b < w.heap.size then tag b else 8, ⟨?_, zdj _ _ _, ?_, ?_, ?_, if_neg (by omega), if_neg (by omega), if_neg (by omega), if_neg (by omega), by omega, fun g hg => by cases hg⟩, hK.apart ht fun b hb' _ => hb.block b hb', DUpd.below hb ht⟩
 . rw [zap, if_neg (by simp), zap, if_pos (by simp)]
 . rw [zap, if_neg (by simp), zap, if_neg (by simp), zap, if_pos (by simp)]
 . unfold zcN
   rw [zap, if_neg (by simp; omega), zap, if_neg (by simp; omega), zap, if_neg (by simp), zap, if_pos rfl]; rfl
 rw [zap, if_pos (by simp)]
structure ziJ (G : List Knot) (tag : Nat -> Nat) (qa ea sa wa : Nat) (adr : List Nat) (vs : List Value) (w : World) (l2 : List Nat) (qv : Value) (tag2 : Nat -> Nat) (j : Nat) (wr : World) : Prop where
 net : KAt wr tag2 adr vs G (fun i => l2.contains i && !(l2.take j).contains i)
 at' : RAt wr tag2 qa ea sa wa adr l2 (zbZ G l2) (zam G l2) qv
 upd : DUpd tag tag2 w wr
theorem ziJ.next {G : List Knot} {tag : Nat -> Nat} {qa ea sa wa : Nat} {adr : List Nat} {vs : List Value} {w : World} {l2 : List Nat} {qv : Value} {tag2 : Nat -> Nat} {j : Nat} {wr : World} (h : ziJ G tag qa ea sa wa adr vs w l2 qv tag2 j wr) (n : Nat) (hn : l2[j]? = some n) (hg : n < G.length) :
 ziJ G tag qa ea sa wa adr vs w l2 qv tag2 (j + 1) (wr.setCell ⟨adr.getD n 0, 3, none⟩ (.bool false)) := by
 refine ⟨(h.net.mark n hg false).congr fun i _ => ?_, h.at'.other _ _ _ (by rw [h.net.ta n hg]; omega), h.upd.trans (DUpd.mark h.net n hg _ _)⟩; have ht : l2.take (j + 1) = l2.take j ++ [n] := by rw [List.take_add_one, hn]; rfl
 rw [ht, zfJ]; by_cases e : i = n <;> simp [e]
theorem dfs_pos {G : List Knot} {f k : Nat} {l2 : List Nat} (h : dfs G f k [] = some l2) : 0 < l2.length := by
 cases f with
 | zero => rw [dfs] at h; cases h
 | succ f =>
  rw [dfs, if_neg (by simp)] at h; have := (zjM f).2 _ _ _ h; simp at this; omega
theorem wipe_end {w : World} {tag : Nat -> Nat} {qa ea sa wa : Nat} {adr l : List Nat} {E : Bool} {S : Set2} {qv : Value} {vs : List Value} {G : List Knot} {seen : Nat -> Bool} (h : RAt w tag qa ea sa wa adr l E S qv) (hK : KAt w tag adr vs G seen) :
 zcN (((w.setCell ⟨sa, 0, none⟩ (.int .u64 S.1)).setCell ⟨sa, 1, none⟩ (.int .u64 S.2)).setCell ⟨ea, 0, none⟩ (.bool E)).drew sa S /\ (((w.setCell ⟨sa, 0, none⟩ (.int .u64 S.1)).setCell ⟨sa, 1, none⟩ (.int .u64 S.2)).setCell ⟨ea, 0, none⟩ (.bool E)).drew.heap[ea]? = some (.cells #[.bool E] 4 (0, 0)) /\
  KAt (((w.setCell ⟨sa, 0, none⟩ (.int .u64 S.1)).setCell ⟨sa, 1, none⟩ (.int .u64 S.2)).setCell ⟨ea, 0, none⟩ (.bool E)).drew tag adr vs G seen /\ DUpd tag tag w (((w.setCell ⟨sa, 0, none⟩ (.int .u64 S.1)).setCell ⟨sa, 1, none⟩ (.int .u64 S.2)).setCell ⟨ea, 0, none⟩ (.bool E)).drew := by
 have nes := h.ne.2.2.2.1; have k : ∀ b, b ≠ sa -> b ≠ ea -> (((w.setCell ⟨sa, 0, none⟩ (.int .u64 S.1)).setCell ⟨sa, 1, none⟩ (.int .u64 S.2)).setCell ⟨ea, 0, none⟩ (.bool E)).drew.heap[b]? = w.heap[b]? := by
  intro b h1 h2; show (((w.setCell ⟨sa, 0, none⟩ (.int .u64 S.1)).setCell ⟨sa, 1, none⟩ (.int .u64 S.2)).setCell ⟨ea, 0, none⟩ (.bool E)).heap[b]? = _; rw [zaf _ _ _ _ h2, zaf _ _ _ _ h1, zaf _ _ _ _ h1]
 refine ⟨?_, ?_, hK.apart (fun _ _ => rfl) fun b hb ht => k b (fun e => by rw [e, h.ts] at ht; omega) (fun e => by rw [e, h.te] at ht; omega), ⟨rfl, rfl, rfl, ?_, fun _ _ => rfl, fun b hb ht => k b (fun e => by rw [e, h.ts] at ht; omega) (fun e => by rw [e, h.te] at ht; omega)⟩⟩
 . show (((w.setCell ⟨sa, 0, none⟩ (.int .u64 S.1)).setCell ⟨sa, 1, none⟩ (.int .u64 S.2)).setCell ⟨ea, 0, none⟩ (.bool E)).heap[sa]? = _
   rw [zaf _ _ _ _ (Ne.symm nes), zac _ sa 1 _ _ _ _ (zac w sa 0 _ _ _ _ h.hs)]; rfl
 . show (((w.setCell ⟨sa, 0, none⟩ (.int .u64 S.1)).setCell ⟨sa, 1, none⟩ (.int .u64 S.2)).setCell ⟨ea, 0, none⟩ (.bool E)).heap[ea]? = _
   rw [zac _ ea 0 _ _ _ _ (((zaf _ _ _ _ nes).trans (zaf _ _ _ _ nes)).trans h.he)]; rfl
 show w.heap.size <= (((w.setCell ⟨sa, 0, none⟩ (.int .u64 S.1)).setCell ⟨sa, 1, none⟩ (.int .u64 S.2)).setCell ⟨ea, 0, none⟩ (.bool E)).heap.size
 simp
theorem ziP (G : List Knot) (hp : ∀ i, zao G i < 128) (f k : Nat) (l2 : List Nat) (w : World) (tag : Nat -> Nat) (adr : List Nat) (vs : List Value) (hd : dfs G f k [] = some l2) (hK : KAt w tag adr vs G (fun _ => false)) (hk : k < G.length) (hl2 : l2.length <= 1000000) :
 Calls Tryz.prog 58 #[zaj (adr.getD k 0)] w (ReachO G tag adr vs l2 w) := by
 obtain ⟨ak, hak⟩ : ∃ x, x = adr.getD k 0 := ⟨_, rfl⟩; rw [<- hak]; have HAK := hid hak; have HK := hid hK; have HD := hid hd; clear hak hK hd; have hmf : ∀ (fn : Fn) (first cap : Array Value) (w : World), (Instr.makeFunc fn first cap).run Tryz.prog w = .ok (.func fn first cap) w := fun _ _ _ _ => rfl; go_enter Tryz.func58, Tryz.ntmps58; go_upto_region 4 with (fail)
 obtain ⟨tag1, hR1, hK1, hU1⟩ := zjH w tag adr vs G _ HK.out; have hcall := dfs_any G hp f k [] l2 _ tag1 _ _ _ _ adr vs _ HD.out (hK1.congr fun _ _ => rfl) hR1 hk hl2; have l1 : w.heap.size + 1 + 1 + 1 < ((((w.alloc (.cells #[.int .u64 0, .int .u64 0] 147)).alloc (.cells #[.bool false] 4)).alloc (.cells #[.slice none 0 0] 134)).alloc (.cells #[zjy (w.heap.size + 1 + 1) (w.heap.size + 1) w.heap.size (w.heap.size + 1 + 1 + 1)] 207)).heap.size := zaa hR1.hw; have cw := zab _ _ 0 _ _ _ hR1.hw; simp only [zLa, zLb] at cw
 rw [<- HAK.out] at hcall; have HU1 := hid hU1; clear hR1 hK1 hU1; generalize hqa : w.heap.size + 1 + 1 = qa at *; generalize hea : w.heap.size + 1 = ea at *; generalize hsa : w.heap.size = sa at *; generalize hwa : qa + 1 = wa at *; have HCALL := hid hcall; clear hqa hea hsa hwa hcall; generalize (((w.alloc (.cells #[.int .u64 0, .int .u64 0] 147)).alloc (.cells #[.bool false] 4)).alloc (.cells #[.slice none 0 0] 134)).alloc (.cells #[zjy qa ea sa wa] 207) = w1 at *; go_wp2_with (fail); refine HCALL.out.mono ?_; rintro e w2 ⟨rfl, tag2, qv2, hK2, hR2, hU2⟩
 have hlt := (dfs_lt hK2.wf f).1 k [] l2 HD.out hk (fun x hx => by cases hx); have HLT := hid hlt; have hst : ziJ G tag qa ea sa wa adr vs w l2 qv2 tag2 0 w2 := ⟨hK2.congr fun i _ => by simp, hR2, HU1.out.trans hU2⟩; have HST := hid hst; have q0 := zab _ _ 0 _ _ _ hR2.hq; have lq := zaa hR2.hq; simp only [zLa, zLb] at q0; have hrow := hR2.rq; have HIN := hid hl2; clear hK2 hR2 hU2 hlt hst HCALL hl2 HU1 cw l1; have hmax : (l2.length : Int) <= 9223372036854775807 := by have := HIN.out; omega
 rcases zaG hrow with ⟨rfl, hn⟩ | ⟨g, cap, rfl, hcap, hg⟩
 . have := dfs_pos HD.out
   omega
 have HRW := hid hrow
 clear hrow; go_wp2_with (fail); go_loopw [14] (fun s14 wr => ∃ (j : Nat), s14 = .int .i64 j /\ j <= l2.length /\ ziJ G tag qa ea sa wa adr vs w l2 (.slice (some ⟨g, 0, none⟩) l2.length cap) tag2 j wr) (fun s14 _ => l2.length - (RowKit.intOf s14).toNat)
 case atStart => exact ⟨0, rfl, by omega, HST.out⟩
 case round =>
  obtain ⟨j, rfl, hj, hS⟩ := hrel; have HS := hid hS; clear hS; by_cases hltj : j < l2.length
  . have hz : (j : Int) < (l2.length : Int) := by omega
    obtain ⟨n, hn⟩ : ∃ n, l2[j]? = some n := ⟨l2[j], zLe hltj⟩; have hng := HLT.out n (List.mem_of_getElem? hn); obtain ⟨an, han⟩ : ∃ x, x = adr.getD n 0 := ⟨_, rfl⟩; have hcn : wr.cell? ⟨g, j, none⟩ = some (zaj an) := by
     rw [han]; refine zax HS.out.at'.rq _ _ ?_; rw [List.getElem?_map, hn]; rfl
    have hck := HS.out.net.cell n hng; rw [<- han] at hck; have lan : an < wr.heap.size := zaa hck; have fan := zae _ _ 3 _ _ hck; have c3 := zab _ _ 3 _ _ _ hck; simp only [zLa, zLc, zLb] at c3; have lg : g < wr.heap.size := (HS.out.at'.rq.lt g rfl).2; have hnx := HS.out.next n hn hng; rw [<- han] at hnx; have HNX := hid hnx; clear hnx hck hn han; go_wp2_with (fail); go_roundw
    case rel => exact ⟨j + 1, by go_num, by omega, HNX.out⟩
    case measure => (simp [RowKit.intOf] <;> omega)
  have hz : ¬ (j : Int) < (l2.length : Int) := by omega
  have hjl : j = l2.length := by omega
  subst hjl; have c1 := HS.out.at'.hs.cells; obtain ⟨s0, s1⟩ := c1; have e0 := zab _ _ 0 _ _ _ HS.out.at'.he; simp only [zLa, zLb] at e0; have ls := zaa HS.out.at'.hs; have le := zaa HS.out.at'.he; have fs0 := zae _ _ 0 _ _ HS.out.at'.hs; have fs1 := zae _ _ 1 _ _ HS.out.at'.hs; have fe := zae _ _ 0 _ _ HS.out.at'.he; have nes := HS.out.at'.ne.2.2.2.1; go_wp2_with (fail); go_region_with (fail)
  all_goals
   go_wp2_with (fail); obtain ⟨z1, z2, z3, z4⟩ := wipe_end HS.out.at' HS.out.net; generalize (((wr.setCell ⟨sa, 0, none⟩ (.int .u64 (zam G l2).1)).setCell ⟨sa, 1, none⟩ (.int .u64 (zam G l2).2)).setCell ⟨ea, 0, none⟩ (.bool (zbZ G l2))).drew = w9 at *; obtain ⟨y0, y1⟩ := z1.cells; have y2 := zab _ _ 0 _ _ _ z2; simp only [zLa, zLb] at y2; have HZ := hid (And.intro z3 z4); clear z1 z2 z3 z4; simp [bodyPost, results, Tryz.results58, go_sem, y0, y1, y2]; exact ⟨rfl, tag2, HZ.out.1.congr fun i _ => by simp, HS.out.upd.trans HZ.out.2⟩
end Go.Proofs.YtghpmhllpaheiaaGreatDoor
