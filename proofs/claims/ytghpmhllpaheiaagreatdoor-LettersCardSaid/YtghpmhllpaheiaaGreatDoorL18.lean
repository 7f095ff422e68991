/-
  Part of the proof: Lay7, Lay8. No condition beyond those in the statements.
-/
import Derived.Test.YtghpmhllpaheiaaGreatDoorL15
import Derived.Test.YtghpmhllpaheiaaGreatDoorL16
import Derived.Test.YtghpmhllpaheiaaGreatDoorL17
set_option linter.unusedVariables false
set_option linter.unusedSimpArgs false
namespace Go.Proofs.YtghpmhllpaheiaaGreatDoor
section
open Go.RowKit Go.Lib
def zfM (s : zaz) : Prop := (∀ k, (toOf s.knots k).length <= 1000000) /\ s.knots.length <= 1000000 /\ s.cls.length <= 1000000
def zbh (G : List Knot) (f : Nat) (i : Nat) : List Nat -> Lay -> Option Lay
 | [], L => some L
 | b :: r, L =>
  match dfs G f b [] with
  | none => none
  | some l => zbh G f i r { L with follow := L.follow ++ [zam G l], rule := L.rule ++ [if zbZ G l then (i : Int) else -1] }
def zbS (f : Nat) : List Tree -> Nat -> zaz -> Lay -> Option (zaz × Lay)
 | [], _, s, L => some (s, L)
 | t :: r, i, s, L =>
  match layT t s.knots.length (s.push ⟨[], 0, false⟩) with
  | none => none
  | some (e, s1) =>
   match dfs (s1.finish e).knots f s.knots.length [] with
   | none => none
   | some l =>
    match zbh (s1.finish e).knots f i (s1.behind.drop s.behind.length) { L with cls := s1.cls, follow := L.follow.modify 0 (Set2.or · (zam (s1.finish e).knots l)) } with
    | none => none
    | some L2 => zbS f r (i + 1) (s1.finish e) L2
def lay0 : zaz := ⟨[], [[]], [0]⟩
def zfk : Lay := ⟨[[]], [-1], [(0, 0)]⟩
theorem zdH (G : List Knot) (e k : Nat) : toOf (G.modify e finK) k = toOf G k := by
 unfold toOf; rw [List.getElem?_modify]; cases G[k]? <;> simp; split <;> simp [finK]
theorem zeH (G : List Knot) (e k : Nat) : zao (G.modify e finK) k = zao G k := zdF (f := finK) (fun _ => rfl) e k
theorem zjd {G : List Knot} {e : Nat} (he : e < G.length) (k : Nat) : za7 (G.modify e finK) k = if k = e then true else za7 G k := by
 unfold za7; rw [List.getElem?_modify]; by_cases h : e = k
 . subst h; rw [zLe he]; simp [finK]
 rw [if_neg (Ne.symm h)]; simp [h]
theorem zaE.finish (s : zaz) (e : Nat) : zaE s (s.finish e) := ⟨by simp [zaz.finish], Nat.le_refl _, rfl, fun k => by show _ <= (toOf (s.knots.modify e finK) k).length; rw [zdH]; exact Nat.le_refl _⟩
theorem zfL {f : Nat} : ∀ (l : List Tree) (i : Nat) (s : zaz) (L : Lay) (s2 : zaz) (L2 : Lay), zbS f l i s L = some (s2, L2) -> zaE s s2
 | [], i, s, L, s2, L2, h => by rw [zbS] at h; cases h; exact zaE.refl _
 | t :: r, i, s, L, s2, L2, h => by
  rw [zbS] at h; split at h
  . cases h
  rename_i e s1 h1
  split at h
  . cases h
  split at h
  . cases h
  exact (zaE.push s _).trans ((zbr _ _ _ _ _ h1).trans ((zaE.finish _ _).trans (zfL r _ _ _ _ _ h)))
theorem zfM.of_later {s s2 : zaz} (h : zfM s2) (k : zaE s s2) : zfM s := ⟨fun i => Nat.le_trans (k.2.2.2 i) (h.1 i), Nat.le_trans k.1 h.2.1, Nat.le_trans k.2.1 h.2.2⟩
def PlOk (s : zaz) : Prop := ∀ i, zao s.knots i <= 64
theorem PlOk.push {s : zaz} (h : PlOk s) (l : List Nat) (n : Nat) (b : Bool) (hn : n <= 64) : PlOk (s.push ⟨l, n, b⟩) := by
 intro i; show zao (s.knots ++ [⟨l, n, b⟩]) i <= 64
 rcases Nat.lt_or_ge i s.knots.length with hi | hi
 . rw [zgR hi]; exact h i
 unfold zao
 rw [List.getElem?_append_right hi]
 rcases Nat.eq_zero_or_pos (i - s.knots.length) with e | e
 . rw [e]; simpa using hn
 rw [List.getElem?_eq_none (by simp; omega)]; simp
theorem PlOk.link {s : zaz} (h : PlOk s) (i : Nat) (l : List Nat) : PlOk (s.link i l) := fun k => by
 show zao (s.knots.modify i (zeL l)) k <= 64; rw [zdF (f := zeL l) (fun _ => rfl)]; exact h k
theorem PlOk.finish {s : zaz} (h : PlOk s) (i : Nat) : PlOk (s.finish i) := fun k => by
 show zao (s.knots.modify i finK) k <= 64; rw [zeH]; exact h k
mutual
theorem zcW : ∀ (t : Tree) (i p : Nat) (s s' : zaz), layT t i s = some (p, s') -> PlOk s -> PlOk s'
 | .cls c, i, p, s, s', h, hs => by
  rw [layT] at h; split at h
  . cases h
  . rename_i h64
    cases h; exact ((hs.push [] 0 false (by omega)).push [] s.cls.length false (by omega)).link i [s.knots.length + 1]
 | .row l, i, p, s, s', h, hs => by
  rw [layT] at h; exact zhl l i p s s' h hs
 | .either a b, i, p, s, s', h, hs => by
  rw [layT] at h; split at h
  . cases h
  . rename_i p1 s2 e1
    split at h
    . cases h
    . rename_i q s3 e2
      cases h; exact ((zcW b _ _ _ _ e2 (zcW a _ _ _ _ e1 ((((hs.push [] 0 false (by omega)).push [] 0 false (by omega)).push [] 0 false (by omega)).link i _))).link _ _).link _ _
 | .rep t m o, i, p, s, s', h, hs => by
  rw [layT] at h; split at h
  . cases h
  rename_i p1 s2 e1
  cases h; have h0 := (zcW t _ _ _ _ e1 (((hs.push [] 0 false (by omega)).push [] 0 false (by omega)).link i _)).link p1 [s.knots.length + 1]; cases o <;> by_cases hm : m = 0 <;> simp only [hm, if_true, if_false, Bool.false_eq_true]
  . exact (h0.link _ _).link _ _
  . exact h0.link _ _
  . exact h0.link _ _
  exact h0
theorem zhl : ∀ (l : List Tree) (i p : Nat) (s s' : zaz), layR l i s = some (p, s') -> PlOk s -> PlOk s'
 | [], i, p, s, s', h, hs => by
  rw [layR] at h; cases h; exact hs
 | t :: l, i, p, s, s', h, hs => by
  rw [zgf] at h; cases e : layT t i s with
  | none => rw [e] at h; cases h
  | some x =>
   obtain ⟨q, s2⟩ := x; rw [e] at h; exact zhl l _ _ _ _ h (zcW t _ _ _ _ e hs)
end
theorem zie : ∀ (n : Nat) (l : List Nat), l.Nodup -> (∀ x ∈ l, x < n) -> l.length <= n
 | 0, l, _, h => by
  cases l with
  | nil => exact Nat.le_refl _
  | cons a l => exact absurd (h a (List.mem_cons_self ..)) (by omega)
 | n + 1, l, hd, h => by
  by_cases hm : n ∈ l
  . have h1 := zie n (l.erase n) (hd.erase n) (fun x hx => by
     have h2 := h x (List.mem_of_mem_erase hx); have h3 : x ≠ n := fun e => by subst e; exact (List.Nodup.not_mem_erase hd) hx
     omega)
    have h2 := List.length_erase_of_mem hm; have h3 := List.length_pos_of_mem hm; omega
  have := zie n l hd (fun x hx => by
   have h2 := h x hx; have h3 : x ≠ n := fun e => hm (by rw [<- e]; exact hx); omega)
  omega
theorem dfs_nodup {G : List Knot} : ∀ (f : Nat), (∀ k l l2, dfs G f k l = some l2 -> l.Nodup -> l2.Nodup) /\ (∀ r l l2, dfsL G f r l = some l2 -> l.Nodup -> l2.Nodup) := by
 intro f
 induction f with
 | zero => exact ⟨fun k l l2 h => (by rw [dfs] at h; cases h), fun r l l2 h => (by rw [dfsL] at h; cases h)⟩
 | succ f ih =>
  refine ⟨fun k l l2 h hl => ?_, fun r l l2 h hl => ?_⟩
  . rw [dfs] at h
    split at h
    . cases h; exact hl
    rename_i hc
    refine ih.2 _ _ _ h ?_; rw [List.nodup_append]; refine ⟨hl, by simp, fun a ha b hb => ?_⟩; rw [List.mem_singleton] at hb; subst hb; intro e; subst e; exact hc (by simpa using ha)
  cases r with
  | nil => rw [dfsL] at h; cases h; exact hl
  | cons k r =>
   rw [dfsL] at h; split at h
   . cases h
   rename_i s2 e
   exact ih.2 _ _ _ h (ih.1 _ _ _ e hl)
theorem zjj {G : List Knot} {f k : Nat} {l : List Nat} (hwf : ∀ i j, i < G.length -> j ∈ toOf G i -> j < G.length) (h : dfs G f k [] = some l) (hk : k < G.length) : l.length <= G.length :=
 zie _ _ ((dfs_nodup f).1 _ _ _ h List.nodup_nil) ((dfs_lt hwf f).1 _ _ _ h hk (fun x hx => by cases hx))
end
section
open Go.RowKit Go.Lib
section
variable {w w' : World} {tag tag' : Nat -> Nat} {bl bm : Nat} {cls : List (List (Int × Int))} {rule : List Int} {follow : List Set2} {adr behind : List Nat} {vc vf vr vb : Value} {cvs bvs : List Value}
theorem MAt.keep1 (h : MAt w tag bl bm cls rule follow adr behind vc vf vr vb cvs bvs) (hk : ∀ b, b < w.heap.size -> 1 <= tag b -> tag b <= 7 -> w'.heap[b]? = w.heap[b]?) (ht : ∀ b, b < w.heap.size -> tag' b = tag b) : MAt w' tag' bl bm cls rule follow adr behind vc vf vr vb cvs bvs := by
 have own : ∀ {v : Value} {e : TypeId} {size n : Nat} {xs : List Value} {c : Nat}, w.ownsRow 0 e size v n xs -> (∀ g, v.ownBlock = some g -> tag g = c) -> 1 <= c -> c <= 7 -> w'.ownsRow 0 e size v n xs :=
  fun hr ht' h1 h7 => zaI hr fun g hg => hk g (hr.lt g hg).2 (by rw [ht' g hg]; exact h1) (by rw [ht' g hg]; exact h7)
 have tg : ∀ {v : Value} {e : TypeId} {size n : Nat} {xs : List Value} {c : Nat}, w.ownsRow 0 e size v n xs -> (∀ g, v.ownBlock = some g -> tag g = c) -> ∀ g, v.ownBlock = some g -> tag' g = c :=
  fun hr ht' g hg => (ht g (hr.lt g hg).2).trans (ht' g hg)
 refine ⟨?_, ?_, ?_, ?_, own h.rc h.t3 (by decide) (by decide), ?_, own h.rr h.t4 (by decide) (by decide), own h.rf h.t6 (by decide) (by decide), own h.rb h.t5 (by decide) (by decide), h.bb, tg h.rc h.t3, tg h.rr h.t4, tg h.rb h.t5, tg h.rf h.t6⟩
 . exact (hk bl (zaa h.hl) (by rw [h.tl]; decide) (by rw [h.tl]; decide)).trans h.hl
 . exact (hk bm (zaa h.hm) (by rw [h.tm]; decide) (by rw [h.tm]; decide)).trans h.hm
 . exact (ht bl (zaa h.hl)).trans h.tl
 . exact (ht bm (zaa h.hm)).trans h.tm
 intro i c hc
 obtain ⟨cv, h1, h2, h3⟩ := h.cc i c hc; exact ⟨cv, h1, own h2 h3 (by decide) (by decide), tg h2 h3⟩
theorem MAt.addFollow (h : MAt w tag bl bm cls rule follow adr behind vc vf vr vb cvs bvs) (hu : AUpd tag tag' 6 bl w w') (v' : Value) (x : Set2) (hl : w'.heap[bl]? = some (.cells #[vc, v', vr] 132 (0, 0)))
 (hrow : w'.ownsRow 0 147 2 v' (follow.length + 1) (setCells follow ++ [.int .u64 x.1, .int .u64 x.2])) (ht : ∀ g, v'.ownBlock = some g -> tag' g = 6) :
 MAt w' tag' bl bm cls rule (follow ++ [x]) adr behind vc v' vr vb cvs bvs := by
 have hne : bm ≠ bl := fun e => by have := h.tm; rw [e, h.tl] at this; cases this
 have b2 := hu.blk h.hm (by rw [h.tm]; decide) hne; have r3 := hu.row h.rc h.t3 (by decide) (by rw [h.tl]; decide); have r5 := hu.row h.rb h.t5 (by decide) (by rw [h.tl]; decide); have r4 := hu.row h.rr h.t4 (by decide) (by rw [h.tl]; decide); refine ⟨hl, b2.1, (hu.tags bl (zaa h.hl)).trans h.tl, b2.2.trans h.tm, r3.1, ?_, r4.1, by simpa [setCells] using hrow, r5.1, h.bb, r3.2, r4.2, r5.2, ht⟩; intro i y hy; obtain ⟨cv0, h1, h2, h3⟩ := h.cc i y hy; have r := hu.row h2 h3 (by decide) (by rw [h.tl]; decide); exact ⟨cv0, h1, r.1, r.2⟩
theorem MAt.pushFollow (h : MAt w tag bl bm cls rule follow adr behind vc vf vr vb cvs bvs) {w1 : World} {V v' : Value} {x : Set2} (ob : Obj) (hV : vf = V)
 (hrow : w1.ownsRow 0 147 2 v' (follow.length + 1) (setCells follow ++ [.int .u64 x.1, .int .u64 x.2])) (hg : (w.alloc ob).drew.grownBy w1 V.ownBlock) (hbl : v'.ownBlock = V.ownBlock \/ v'.ownBlock = some (w.alloc ob).drew.heap.size) :
 ∃ tag1 v1, AUpd tag tag1 6 bl w (w1.setCell ⟨bl, 1, none⟩ v') /\ MAt (w1.setCell ⟨bl, 1, none⟩ v') tag1 bl bm cls rule (follow ++ [x]) adr behind vc v1 vr vb cvs bvs := by
 subst hV; obtain ⟨tag1, hA, hb', hr', ht'⟩ := zcK (tag := tag) (c := 6) (b := bl) (off := 1) ob h.hl (by rw [h.tl]; decide) (fun g hgv => ⟨(h.rf.lt g hgv).2, h.t6 g hgv⟩) hrow ⟨hg.os, hg.tape, hg.output, hg.size, hg.block⟩ hbl; exact ⟨tag1, v', hA, h.addFollow hA v' x hb' hr' ht'⟩
theorem zbT {v : Value} {e : TypeId} {size n : Nat} {xs : List Value} {b o : Nat} (u : Value) (hr : w.ownsRow 0 e size v n xs) (hv : v.ownBlock ≠ some b) : (w.setCell ⟨b, o, none⟩ u).ownsRow 0 e size v n xs :=
 zaI hr fun g hg => zaf _ _ _ _ (fun e2 => hv (by rw [hg, show g = b from e2]))
theorem MAt.setRule (h : MAt w tag bl bm cls rule follow adr behind vc vf vr vb cvs bvs) (g cap n : Nat) (hv : vr = .slice (some ⟨g, 0, none⟩) rule.length cap) (x : Int) :
 MAt (w.setCell ⟨g, n, none⟩ (.int .i64 x)) tag bl bm cls (rule.set n x) follow adr behind vc vf vr vb cvs bvs := by
 have tg : tag g = 4 := h.t4 g (by rw [hv]; rfl); have ne : ∀ {v : Value} {c : Nat}, (∀ g, v.ownBlock = some g -> tag g = c) -> c ≠ 4 -> v.ownBlock ≠ some g := fun ht hc e => by have := ht g e; rw [tg] at this; exact hc this.symm
 have bne : ∀ {b c : Nat}, tag b = c -> c ≠ 4 -> b ≠ g := fun hb hc e => by rw [e, tg] at hb; exact hc hb.symm
 refine ⟨(zaf _ _ _ _ (bne h.tl (by decide))).trans h.hl, (zaf _ _ _ _ (bne h.tm (by decide))).trans h.hm, h.tl, h.tm, zbT _ h.rc (ne h.t3 (by decide)), ?_, ?_, zbT _ h.rf (ne h.t6 (by decide)), zbT _ h.rb (ne h.t5 (by decide)), h.bb, h.t3, h.t4, h.t5, h.t6⟩
 . intro i c hc
   obtain ⟨cv, h1, h2, h3⟩ := h.cc i c hc; exact ⟨cv, h1, zbT _ h2 (ne h3 (by decide)), h3⟩
 have hr := h.rr
 rw [hv] at hr ⊢; have := (hr.stored n (.int .i64 x)).1; rw [List.length_set, List.map_set]; exact this
theorem zdT (l : List Set2) (i : Nat) (s : Set2) (h : l[i]? = some s) : (setCells l)[2 * i]? = some (.int .u64 s.1) /\ (setCells l)[2 * i + 1]? = some (.int .u64 s.2) := by
 induction l generalizing i with
 | nil => cases h
 | cons a l ih =>
  cases i with
  | zero => cases h; exact ⟨rfl, rfl⟩
  | succ i =>
   have := ih i h; have e : setCells (a :: l) = .int .u64 a.1 :: .int .u64 a.2 :: setCells l := rfl; rw [e, show 2 * (i + 1) = 2 * i + 1 + 1 by omega]; simpa using this
theorem zdc (l : List Set2) : (setCells l).length = l.length * 2 := by
 induction l with
 | nil => rfl
 | cons a l ih => have e : setCells (a :: l) = .int .u64 a.1 :: .int .u64 a.2 :: setCells l := rfl
                  rw [e]; simp [ih]; omega
theorem MAt.setFirst (h : MAt w tag bl bm cls rule follow adr behind vc vf vr vb cvs bvs) (g cap : Nat) (hv : vf = .slice (some ⟨g, 0, none⟩) follow.length cap) (s : Set2) (r : List Set2) (hf : follow = s :: r) (x : Set2) :
 MAt ((w.setCell ⟨g, 0, none⟩ (.int .u64 x.1)).setCell ⟨g, 1, none⟩ (.int .u64 x.2)) tag bl bm cls rule (x :: r) adr behind vc vf vr vb cvs bvs := by
 have tg : tag g = 6 := h.t6 g (by rw [hv]; rfl); have ne : ∀ {v : Value} {c : Nat}, (∀ g, v.ownBlock = some g -> tag g = c) -> c ≠ 6 -> v.ownBlock ≠ some g := fun ht hc e => by have := ht g e; rw [tg] at this; exact hc this.symm
 have bne : ∀ {b c : Nat}, tag b = c -> c ≠ 6 -> b ≠ g := fun hb hc e => by rw [e, tg] at hb; exact hc hb.symm
 refine ⟨((zaf _ _ _ _ (bne h.tl (by decide))).trans (zaf _ _ _ _ (bne h.tl (by decide)))).trans h.hl, ((zaf _ _ _ _ (bne h.tm (by decide))).trans (zaf _ _ _ _ (bne h.tm (by decide)))).trans h.hm, h.tl, h.tm, zbT _ (zbT _ h.rc (ne h.t3 (by decide))) (ne h.t3 (by decide)), ?_, zbT _ (zbT _ h.rr (ne h.t4 (by decide))) (ne h.t4 (by decide)), ?_, zbT _ (zbT _ h.rb (ne h.t5 (by decide))) (ne h.t5 (by decide)), h.bb, h.t3, h.t4, h.t5, h.t6⟩
 . intro i c hc
   obtain ⟨cv, h1, h2, h3⟩ := h.cc i c hc; exact ⟨cv, h1, zbT _ (zbT _ h2 (ne h3 (by decide))) (ne h3 (by decide)), h3⟩
 have hr := h.rf
 rw [hv, hf] at hr; have h1 := ((hr.stored 0 (.int .u64 x.1)).1.stored 1 (.int .u64 x.2)).1; rw [hv, hf]; exact h1
end
theorem KAt.finish {w : World} {tag : Nat -> Nat} {adr : List Nat} {vs : List Value} {G : List Knot} {seen : Nat -> Bool} (h : KAt w tag adr vs G seen) (k : Nat) (hk : k < G.length) :
 KAt (w.setCell ⟨adr.getD k 0, 2, none⟩ (.bool true)) tag adr vs (G.modify k finK) seen := by
 have inj : ∀ i j, i < G.length -> j < G.length -> adr.getD i 0 = adr.getD j 0 -> i = j := by
  intro i j hi hj e; have h1 := h.ta i hi; have h2 := h.ta j hj; rw [e, h2] at h1; omega
 have hl : (G.modify k finK).length = G.length := by simp
 refine ⟨by rw [hl]; exact h.la, by rw [hl]; exact h.lv, fun i hi => ?_, fun i hi => ?_, fun i hi => h.ta i (by rwa [hl] at hi), fun i g hi => h.tv i g (by rwa [hl] at hi), fun i j hi hj => by rw [hl] at hi ⊢; rw [zdH] at hj; exact h.wf i j hi hj⟩
 . rw [hl] at hi
   rw [zeH, zjd hk]; by_cases e : i = k
   . subst e
     rw [zac w _ 2 _ _ _ _ (h.cell i hi), if_pos rfl]; rfl
   rw [zaf _ _ _ _ (fun e2 => e (inj i k hi hk e2)), if_neg e]
   exact h.cell i hi
 rw [hl] at hi
 rw [zdH]; refine zaI (h.row i hi) fun g hg => zaf _ _ _ _ ?_; intro e; have h1 := h.tv i g hi hg; have h2 := h.ta k hk; rw [show g = adr.getD k 0 from e, h2] at h1; omega
theorem KUpd.atKnot {w : World} {tag : Nat -> Nat} {adr : List Nat} {vs : List Value} {G : List Knot} {seen : Nat -> Bool} (h : KAt w tag adr vs G seen) (k : Nat) (hk : k < G.length) (o : Nat) (v : Value) : KUpd tag tag w (w.setCell ⟨adr.getD k 0, o, none⟩ v) :=
 ⟨rfl, rfl, rfl, by simp, fun _ _ => rfl, fun b hb ht => zaf _ _ _ _ (fun e => by have := h.ta k hk; rw [<- show b = adr.getD k 0 from e] at this; omega)⟩
end
end Go.Proofs.YtghpmhllpaheiaaGreatDoor
