/-
  Part of the proof: Bl1, Bl2. No condition beyond those in the statements.
-/
import Derived.Test.YtghpmhllpaheiaaGreatDoorK27
import Derived.Test.YtghpmhllpaheiaaGreatDoorK20
import Derived.Test.YtghpmhllpaheiaaGreatDoorK07
import Derived.Test.YtghpmhllpaheiaaGreatDoorK02
set_option linter.unusedVariables false
set_option linter.unusedSimpArgs false
set_option maxRecDepth 100000
set_option maxHeartbeats 8000000
namespace Go.Proofs.YtghpmhllpaheiaaGreatDoor
section
open Go.RowKit Go.Lib
structure LdSt (w0 : World) (rb tb : Nat) (tag : Nat → Nat) (cuts rule : List Int) (goes : List (List Int)) (vc vr vg : Value) (gvs : List Value) (s : ByteArray) (wr : World) : Prop where
 pos : 0 < w0.heap.size
 below : Below w0.heap.size w0 wr
 new : ∀ g, tag g ≠ 0 → w0.heap.size ≤ g
 hr : wr.heap[rb]? = some (.cells #[.string s, .bool true] 113 (0, 0))
 ht : wr.heap[tb]? = some (.cells #[vc, vr, vg, .int .i64 0] 76 (0, 0))
 fCuts : wr.ownsRow 0 21 1 vc cuts.length (runes cuts)
 fRule : wr.ownsRow 0 3 1 vr rule.length (nums rule)
 fGoes : wr.ownsRow 0 39 1 vg goes.length gvs
 rows : ∀ (i : Nat) (row : List Int), goes[i]? = some row → ∃ g c, gvs[i]? = some (.slice (some ⟨g, 0, none⟩) row.length c) ∧ wr.ownsRow 0 3 1 (.slice (some ⟨g, 0, none⟩) row.length c) row.length (nums row) ∧ tag g = 6
 t1 : tag tb = 1
 t2 : tag rb = 2
 t3 : ∀ g, vc.ownBlock = some g → tag g = 3
 t4 : ∀ g, vr.ownBlock = some g → tag g = 4
 t5 : ∀ g, vg.ownBlock = some g → tag g = 5
section
variable {w0 w w' : World} {rb tb : Nat} {tag tag' : Nat → Nat} {cuts rule : List Int} {goes : List (List Int)} {vc vr vg : Value} {gvs : List Value} {s : ByteArray} {c b : Nat}
theorem LdSt.ne (h : LdSt w0 rb tb tag cuts rule goes vc vr vg gvs s w) : rb ≠ tb := fun e => by have := h.t2; rw [e, h.t1] at this; cases this
theorem LdSt.tag0 (h : LdSt w0 rb tb tag cuts rule goes vc vr vg gvs s w) : tag 0 = 0 := by
 rcases Nat.eq_zero_or_pos (tag 0) with h0 | h0
 · exact h0
 · have := h.new 0 (by omega); have := h.pos; omega
theorem LdSt.next (h : LdSt w0 rb tb tag cuts rule goes vc vr vg gvs s w) (hu : AUpd tag tag' c b w w') (hn : ∀ g, tag' g ≠ 0 → w0.heap.size ≤ g) (hc : 7 ≤ c) (hb : tag b = 0 ∨ 7 ≤ tag b) (hbl : Below w0.heap.size w0 w') : LdSt w0 rb tb tag' cuts rule goes vc vr vg gvs s w' := by
 have own : ∀ {v : Value} {e : TypeId} {size k : Nat} {xs : List Value} {d : Nat}, w.ownsRow 0 e size v k xs → (∀ g, v.ownBlock = some g → tag g = d) → 0 < d → d < 7 → w'.ownsRow 0 e size v k xs ∧ ∀ g, v.ownBlock = some g → tag' g = d :=
  fun hr ht h0 hd => hu.row hr ht (by omega) (by omega)
 have ne : ∀ x d, tag x = d → 0 < d → d < 7 → x ≠ b := fun x d hx h0 h7 e => by rw [e] at hx; omega
 have blk : ∀ {x : Nat} {o : Obj} {d : Nat}, w.heap[x]? = some o → tag x = d → 0 < d → d < 7 → w'.heap[x]? = some o ∧ tag' x = d := fun hx hd h0 h7 => by
  have := hu.blk hx (by omega) (ne _ _ hd h0 h7); exact ⟨this.1, this.2.trans hd⟩
 have b1 := blk h.ht h.t1 (by decide) (by decide); have b2 := blk h.hr h.t2 (by decide) (by decide); have r3 := own h.fCuts h.t3 (by decide) (by decide); have r4 := own h.fRule h.t4 (by decide) (by decide); have r5 := own h.fGoes h.t5 (by decide) (by decide); exact ⟨h.pos, hbl, hn, b2.1, b1.1, r3.1, r4.1, r5.1, mk_rows (d := 0) hu (by omega) (by omega) h.rows, b1.2, b2.2, r3.2, r4.2, r5.2⟩
theorem LdSt.later (h : LdSt w0 rb tb tag cuts rule goes vc vr vg gvs s w) (hb : Below w.heap.size w w') : LdSt w0 rb tb tag cuts rule goes vc vr vg gvs s w' :=
 h.next (c := 9) (b := 0) (AUpd.of_below tag tag 9 _ hb (fun _ _ => rfl)) h.new (by omega) (.inl h.tag0) (below_later h.below hb h.below.size)
theorem LdSt.other (h : LdSt w0 rb tb tag cuts rule goes vc vr vg gvs s w) (g : Nat) (hg : 7 ≤ tag g) (hw : w.grownBy w' (some g)) : LdSt w0 rb tb tag cuts rule goes vc vr vg gvs s w' :=
 h.next (c := tag g) (b := g) (AUpd.of_grown tag (tag g) g hw) h.new hg (.inr hg) (mk_below h.below h.new (AUpd.of_grown tag (tag g) g hw) (by omega) (h.new g (by omega)))
theorem LdSt.mark (h : LdSt w0 rb tb tag cuts rule goes vc vr vg gvs s w) (hb : Below w.heap.size w w') (g d : Nat) (hg : w.heap.size ≤ g) (hd : 7 ≤ d) : LdSt w0 rb tb (tagSet tag g d) cuts rule goes vc vr vg gvs s w' :=
 h.next (c := 9) (b := 0) (AUpd.of_below tag _ 9 _ hb (fun x hx => tagSet_old (by omega))) (fun x hx => by
  by_cases e : x = g
  · have := h.below.size; omega
  · rw [tagSet_old e] at hx; exact h.new x hx) (by omega) (.inl h.tag0) (below_later h.below hb h.below.size)
theorem LdSt.taken (h : LdSt w0 rb tb tag cuts rule goes vc vr vg gvs s w) (s' : ByteArray) : LdSt w0 rb tb tag cuts rule goes vc vr vg gvs s' (w.setCell ⟨rb, 0, none⟩ (.string s')) := by
 have hg := grown_set w rb 0 (.string s'); have hu : AUpd tag tag 2 rb w (w.setCell ⟨rb, 0, none⟩ (.string s')) := AUpd.of_grown tag 2 rb hg; have b1 := hu.blk h.ht (by rw [h.t1]; decide) (fun e => h.ne e.symm); have r3 := hu.row h.fCuts h.t3 (by decide) (by rw [h.t2]; decide); have r4 := hu.row h.fRule h.t4 (by decide) (by rw [h.t2]; decide); have r5 := hu.row h.fGoes h.t5 (by decide) (by rw [h.t2]; decide)
 exact ⟨h.pos, mk_below h.below h.new hu (by decide) (h.new rb (by rw [h.t2]; decide)), h.new, heap_set_same w rb 0 _ _ _ _ h.hr, b1.1, r3.1, r4.1, r5.1, mk_rows (d := 0) hu (by decide) (by rw [h.t2]; decide) h.rows, h.t1, h.t2, h.t3, h.t4, h.t5⟩
theorem LdSt.newTag (h : LdSt w0 rb tb tag cuts rule goes vc vr vg gvs s w) (c : Nat) : ∀ g, tagSet tag (w.heap.size + 1) c g ≠ 0 → w0.heap.size ≤ g := fun g hg => by
 by_cases e : g = w.heap.size + 1
 · have := h.below.size; omega
 · rw [tagSet_old e] at hg; exact h.new g hg
theorem LdSt.appCuts (h : LdSt w0 rb tb tag cuts rule goes vc vr vg gvs s w) (x : Int) {w2 : World} (ob : Obj) (v' : Value)
 (hrow : w2.ownsRow 0 21 1 v' (cuts.length + 1) (runes cuts ++ [.int .i32 x])) (hg : (w.alloc ob).grownBy w2 vc.ownBlock) (hbl : v'.ownBlock = vc.ownBlock ∨ v'.ownBlock = some (w.alloc ob).heap.size) :
 LdSt w0 rb tb (tagSet tag (w.heap.size + 1) 3) (cuts ++ [x]) rule goes v' vr vg gvs s (w2.setCell ⟨tb, 0, none⟩ v') := by
 obtain ⟨hu, a2, a3, a4⟩ := append_store2 (tag := tag) (c := 3) (off := 0) ob h.ht (by rw [h.t1]; decide) (fun g hg => ⟨(h.fCuts.lt g hg).2, h.t3 g hg⟩) hrow hg hbl; have b2 := hu.blk h.hr (by rw [h.t2]; decide) h.ne; have r4 := hu.row h.fRule h.t4 (by decide) (by rw [h.t1]; decide); have r5 := hu.row h.fGoes h.t5 (by decide) (by rw [h.t1]; decide); have el : (cuts ++ [x]).length = cuts.length + 1 := by simp
 exact ⟨h.pos, mk_below h.below h.new hu (by decide) (h.new tb (by rw [h.t1]; decide)), h.newTag 3, b2.1, a2, by rw [el]; unfold runes at *; rw [List.map_append]; exact a3, r4.1, r5.1, mk_rows (d := 0) hu (by decide) (by rw [h.t1]; decide) h.rows, (hu.tags tb (lt_of_some h.ht)).trans h.t1, b2.2.trans h.t2, a4, r4.2, r5.2⟩
theorem LdSt.appRule (h : LdSt w0 rb tb tag cuts rule goes vc vr vg gvs s w) (x : Int) {w2 : World} (ob : Obj) (v' : Value)
 (hrow : w2.ownsRow 0 3 1 v' (rule.length + 1) (nums rule ++ [.int .i64 x])) (hg : (w.alloc ob).grownBy w2 vr.ownBlock) (hbl : v'.ownBlock = vr.ownBlock ∨ v'.ownBlock = some (w.alloc ob).heap.size) :
 LdSt w0 rb tb (tagSet tag (w.heap.size + 1) 4) cuts (rule ++ [x]) goes vc v' vg gvs s (w2.setCell ⟨tb, 1, none⟩ v') := by
 obtain ⟨hu, a2, a3, a4⟩ := append_store2 (tag := tag) (c := 4) (off := 1) ob h.ht (by rw [h.t1]; decide) (fun g hg => ⟨(h.fRule.lt g hg).2, h.t4 g hg⟩) hrow hg hbl; have b2 := hu.blk h.hr (by rw [h.t2]; decide) h.ne; have r3 := hu.row h.fCuts h.t3 (by decide) (by rw [h.t1]; decide); have r5 := hu.row h.fGoes h.t5 (by decide) (by rw [h.t1]; decide); have el : (rule ++ [x]).length = rule.length + 1 := by simp
 exact ⟨h.pos, mk_below h.below h.new hu (by decide) (h.new tb (by rw [h.t1]; decide)), h.newTag 4, b2.1, a2, r3.1, by rw [el]; unfold nums at *; rw [List.map_append]; exact a3, r5.1, mk_rows (d := 0) hu (by decide) (by rw [h.t1]; decide) h.rows, (hu.tags tb (lt_of_some h.ht)).trans h.t1, b2.2.trans h.t2, r3.2, a4, r5.2⟩
theorem LdSt.appGoes (h : LdSt w0 rb tb tag cuts rule goes vc vr vg gvs s w) (row : List Int) (gb cp n' : Nat) (hln : row.length = n') (hr : w.ownsRow 0 3 1 (.slice (some ⟨gb, 0, none⟩) n' cp) n' (nums row)) (htr : tag gb = 6) {w2 : World} (ob : Obj) (v' : Value)
 (hrow : w2.ownsRow 0 39 1 v' (goes.length + 1) (gvs ++ [.slice (some ⟨gb, 0, none⟩) n' cp])) (hg : (w.alloc ob).grownBy w2 vg.ownBlock) (hbl : v'.ownBlock = vg.ownBlock ∨ v'.ownBlock = some (w.alloc ob).heap.size) :
 LdSt w0 rb tb (tagSet tag (w.heap.size + 1) 5) cuts rule (goes ++ [row]) vc vr v' (gvs ++ [.slice (some ⟨gb, 0, none⟩) n' cp]) s (w2.setCell ⟨tb, 2, none⟩ v') := by
 subst hln; obtain ⟨hu, a2, a3, a4⟩ := append_store2 (tag := tag) (c := 5) (off := 2) ob h.ht (by rw [h.t1]; decide) (fun g hg => ⟨(h.fGoes.lt g hg).2, h.t5 g hg⟩) hrow hg hbl; have b2 := hu.blk h.hr (by rw [h.t2]; decide) h.ne; have r3 := hu.row h.fCuts h.t3 (by decide) (by rw [h.t1]; decide); have r4 := hu.row h.fRule h.t4 (by decide) (by rw [h.t1]; decide); have rr := hu.row hr (d := 6) (fun g hg => by cases hg; exact htr) (by decide) (by rw [h.t1]; decide); have rows := mk_rows (d := 0) hu (by decide) (by rw [h.t1]; decide) h.rows
 have el : (goes ++ [row]).length = goes.length + 1 := by simp
 have gl : gvs.length = goes.length := by have := h.fGoes.1; simpa using this
 refine ⟨h.pos, mk_below h.below h.new hu (by decide) (h.new tb (by rw [h.t1]; decide)), h.newTag 5, b2.1, a2, r3.1, r4.1, by rw [el]; exact a3, ?_, (hu.tags tb (lt_of_some h.ht)).trans h.t1, b2.2.trans h.t2, r3.2, r4.2, a4⟩; intro i x hx
 rcases Nat.lt_or_ge i goes.length with hi | hi
 · rw [List.getElem?_append_left hi] at hx
   obtain ⟨g, c, h1, h2, h3⟩ := rows i x hx; exact ⟨g, c, by rw [List.getElem?_append_left (by rw [gl]; exact hi)]; exact h1, h2, h3⟩
 · rw [List.getElem?_append_right hi] at hx
   have hi2 : i = goes.length := by
    rcases Nat.lt_or_ge (i - goes.length) 1 with h1 | h1
    · omega
    · rw [List.getElem?_eq_none (by simpa using h1)] at hx; cases hx
   subst hi2; simp at hx; subst hx; exact ⟨gb, cp, by rw [← gl]; simp, rr.1, rr.2 gb rfl⟩
theorem LdSt.finish (h : LdSt w0 rb tb tag cuts rule goes vc vr vg gvs s w) (g : Nat) (hg : tag g = 7) : LdSt w0 rb tb (tagSet tag g 6) cuts rule goes vc vr vg gvs s w := by
 have k : ∀ x d, tag x = d → d ≠ 7 → tagSet tag g 6 x = d := fun x d hx hd => by rw [tagSet_old (fun e => by rw [e, hg] at hx; omega)]; exact hx
 refine ⟨h.pos, h.below, fun x hx => ?_, h.hr, h.ht, h.fCuts, h.fRule, h.fGoes, fun i row hr => ?_, k _ _ h.t1 (by decide), k _ _ h.t2 (by decide), fun x hx => k _ _ (h.t3 x hx) (by decide), fun x hx => k _ _ (h.t4 x hx) (by decide), fun x hx => k _ _ (h.t5 x hx) (by decide)⟩
 · by_cases e : x = g
   · exact h.new x (by rw [e, hg]; decide)
   · rw [tagSet_old e] at hx; exact h.new x hx
 · obtain ⟨b, c, h1, h2, h3⟩ := h.rows i row hr
   exact ⟨b, c, h1, h2, k _ _ h3 (by decide)⟩
theorem LdSt.tabAt {gc cc gr cr gg cg : Nat} (h : LdSt w0 rb tb tag cuts rule goes (.slice (some ⟨gc, 0, none⟩) cuts.length cc) (.slice (some ⟨gr, 0, none⟩) rule.length cr) (.slice (some ⟨gg, 0, none⟩) goes.length cg) gvs s w) (hsz : cuts.length < 1000000) (hsz2 : goes.length < 1000000) (bnd : Int) (w2 : World)
 (hk : ∀ b, b ≠ tb → b < w.heap.size → w2.heap[b]? = w.heap[b]?) (ht2 : w2.heap[tb]? = some (.cells #[.slice (some ⟨gc, 0, none⟩) cuts.length cc, .slice (some ⟨gr, 0, none⟩) rule.length cr, .slice (some ⟨gg, 0, none⟩) goes.length cg, .int .i64 bnd] 76 (0, 0))) :
 TabAt w2.heap.size w2 tb ⟨cuts, rule, goes, bnd⟩ gc cc gr cr gg cg := by
 have ne : ∀ x d, tag x = d → d ≠ 1 → x ≠ tb := fun x d hx hd e => by rw [e, h.t1] at hx; omega
 have z0 := cell_of _ _ 0 _ _ _ ht2; have z1 := cell_of _ _ 1 _ _ _ ht2; have z2 := cell_of _ _ 2 _ _ _ ht2; have z3 := cell_of _ _ 3 _ _ _ ht2; simp only [List.getElem?_toArray, List.getElem?_cons_zero, List.getElem?_cons_succ] at z0 z1 z2 z3; have kept : ∀ {e : TypeId} {n : Nat} {v : Value} {xs : List Value} {d : Nat}, w.ownsRow 0 e 1 v n xs → (∀ g, v.ownBlock = some g → tag g = d) → d ≠ 1 → w2.ownsRow 0 e 1 v n xs := fun hr ht hd => row_ext hr fun g hg => hk g (ne _ _ (ht g hg) hd) (hr.lt g hg).2; have kc := kept h.fCuts h.t3 (by decide); have kr := kept h.fRule h.t4 (by decide)
 have kg := kept h.fGoes h.t5 (by decide); obtain ⟨rc, hrc, _, hcc⟩ := rowAt_of kc; have hnum : ∀ (l : List Int) (i : Nat) (x : Int), l[i]? = some x → (nums l)[i]? = some (.int .i64 x) := fun l i x hx => by unfold nums; rw [List.getElem?_map, hx]; rfl
 refine ⟨lt_of_some ht2, z0, z1, z2, z3, ⟨rc, hrc⟩, lt_of_some hrc, fun i x hx => row_cell kr i _ (hnum _ _ _ hx), (kr.lt gr rfl).2, fun i row hr => ?_, (kg.lt gg rfl).2, hcc, hsz, hsz2⟩; obtain ⟨g, cp, h1, h2, h3⟩ := h.rows i row hr; have k2 := kept h2 (d := 6) (fun g' hg => by cases hg; exact h3) (by decide); exact ⟨g, cp, row_cell kg i _ h1, (k2.lt g rfl).2, fun j x hx => row_cell k2 j _ (hnum _ _ _ hx)⟩
end
end
section
open Go.RowKit Go.Lib
structure WholeOk (T : Tab) : Prop where
 wid : ∀ x ∈ widthsP, x ∈ T.cuts
 sur : ∀ (k : Nat) (c : Int), T.cuts[k]? = some c → 55296 ≤ c → c < 57344 → ∀ row ∈ T.goes, ∀ v, row[k]? = some v → v < 0
 zero : ∀ row ∈ T.goes, row.contains 0 = false
 rule0 : ∃ r, T.rule[0]? = some r ∧ r < 0
theorem bs_there {T : Tab} {R B bt bc cc br cr bg cg : Nat} {w : World} (hT : WfT T R) (h : TabAt B w bt T bc cc br cr bg cg) {x : Int} (hx : x ∈ T.cuts) :
 Calls Tryz.prog 72 #[.slice (some ⟨bc, 0, none⟩) T.cuts.length cc, .int .i32 x] w fun e w' => ∃ k : Nat, e = .returned (.tuple #[.int .i64 k, .bool true]) ∧ T.cuts[k]? = some x ∧ w = w' := by
 obtain ⟨rc, hrow⟩ := h.cuts; refine (bs_any bc T.cuts.length cc rc T.cuts.toArray x w hrow (by simp) h.size.1 (fun i j hij hj => rise_le hT.rise i j hij (by simpa using hj))).mono ?_; rintro e w' ⟨k, rfl, hk, h1, h2, rfl⟩; obtain ⟨j, hj⟩ := List.getElem?_of_mem hx; have hjl := (List.getElem?_eq_some_iff.1 hj).1; have hg : ∀ (i : Nat) (hi : i < T.cuts.length), T.cuts.toArray[i]! = T.cuts[i] := fun i hi => by rw [getElem!_pos _ _ (by simpa using hi)]; simp
 have hjx := (List.getElem?_eq_some_iff.1 hj).2; have hkj : k = j := by
  have hp := List.pairwise_iff_getElem.1 hT.rise
  rcases Nat.lt_trichotomy k j with h | h | h
  · exfalso
    have a := h2 k (Nat.le_refl _) (by omega); have b := hp k j (by omega) hjl h; rw [hg k (by omega)] at a; omega
  · exact h
  · exfalso
    have a := h1 j h; rw [hg j hjl] at a; omega
 subst hkj; refine ⟨k, ?_, hj, rfl⟩; have e1 : decide (k < T.cuts.length) = true := decide_eq_true hjl; have e2 : decide (T.cuts.toArray[k]! = x) = true := decide_eq_true (by rw [hg k hjl]; exact hjx); rw [e1, e2]; rfl
theorem rise_getq' {l : List Int} (h : l.Pairwise (· < ·)) {i j : Nat} {a b : Int} (hi : l[i]? = some a) (hj : l[j]? = some b) (hij : i < j) : a < b := by
 obtain ⟨h1, rfl⟩ := List.getElem?_eq_some_iff.1 hi; obtain ⟨h2, rfl⟩ := List.getElem?_eq_some_iff.1 hj; exact List.pairwise_iff_getElem.1 h i j h1 h2 hij
theorem rise_getq {l : List Int} (h : l.Pairwise (· < ·)) {i j : Nat} {a b : Int} (hi : l[i]? = some a) (hj : l[j]? = some b) (hab : a < b) : i < j := by
 rcases Nat.lt_trichotomy i j with g | g | g
 · exact g
 · subst g; rw [hi] at hj; cases hj; omega
 · have := rise_getq' h hj hi g; omega
theorem tab_cut {T : Tab} {B bt bc cc br cr bg cg : Nat} {w : World} (h : TabAt B w bt T bc cc br cr bg cg) {k : Nat} {c : Int} (hc : T.cuts[k]? = some c) : w.cell? ⟨bc, k, none⟩ = some (.int .i32 c) := by
 obtain ⟨rc, hr⟩ := h.cuts; obtain ⟨h1, h2⟩ := List.getElem?_eq_some_iff.1 hc; have := hr.cell k (by simpa using h1); rw [getElem!_pos _ _ (by simpa using h1)] at this; rw [this]; simp [h2]
theorem whole_any (T : Tab) (R : Nat) (hT : WfT T R) (hO : WholeOk T) (w : World) (B bt bc cc br cr bg cg : Nat) (h : TabAt B w bt T bc cc br cr bg cg) (hB : B ≤ w.heap.size) (hW : Wid w) (hG : Glob ≤ w.heap.size) :
 Calls Tryz.prog 47 #[knotP bt] w fun e w' => e = .returned (.bool true) ∧ w' = w := by
 have c0 := h.c0; have c1 := h.c1; have c2 := h.c2; have lbt : bt < w.heap.size := Nat.lt_of_lt_of_le h.lt hB; have lbc : bc < w.heap.size := Nat.lt_of_lt_of_le h.ltc hB; have lbr : br < w.heap.size := Nat.lt_of_lt_of_le h.ltr hB; have lbg : bg < w.heap.size := Nat.lt_of_lt_of_le h.ltg hB; have hbs : ∀ x ∈ widthsP, Calls Tryz.prog 72 #[.slice (some ⟨bc, 0, none⟩) T.cuts.length cc, .int .i32 x] w fun e w' => ∃ k : Nat, e = .returned (.tuple #[.int .i64 k, .bool true]) ∧ T.cuts[k]? = some x ∧ w = w' := fun x hx => bs_there hT h (hO.wid x hx); have HBS := hid hbs
 have H := hid (And.intro h (And.intro hT (And.intro hO hW))); have hs1 : (T.goes.length : Int) < 1000000 := by have := h.size.2; omega
 have hs2 : (T.cuts.length : Int) < 1000000 := by have := h.size.1; omega
 have hwl : 3 < w.heap.size := by unfold Glob at hG; omega
 have g0 := hW 0 _ rfl; have g1 := hW 1 _ rfl; have g2 := hW 2 _ rfl; have g3 := hW 3 _ rfl; have g4 := hW 4 _ rfl; have g5 := hW 5 _ rfl; clear h hT hO hW hbs; go_enter Tryz.func47, Tryz.ntmps47; go_upto_region 2 with (fail)
 have hi0 : ∀ w, (Instr.index 175 (.agg #[.int .i32 0, .int .i32 128, .int .i32 2048, .int .i32 55296, .int .i32 57344, .int .i32 65536]) (.int .i64 0)).run Tryz.prog w = .ok (.int .i32 0) w := fun _ => by kernel_rfl
 have hi1 : ∀ w, (Instr.index 175 (.agg #[.int .i32 0, .int .i32 128, .int .i32 2048, .int .i32 55296, .int .i32 57344, .int .i32 65536]) (.int .i64 1)).run Tryz.prog w = .ok (.int .i32 128) w := fun _ => by kernel_rfl
 have hi2 : ∀ w, (Instr.index 175 (.agg #[.int .i32 0, .int .i32 128, .int .i32 2048, .int .i32 55296, .int .i32 57344, .int .i32 65536]) (.int .i64 2)).run Tryz.prog w = .ok (.int .i32 2048) w := fun _ => by kernel_rfl
 have hi3 : ∀ w, (Instr.index 175 (.agg #[.int .i32 0, .int .i32 128, .int .i32 2048, .int .i32 55296, .int .i32 57344, .int .i32 65536]) (.int .i64 3)).run Tryz.prog w = .ok (.int .i32 55296) w := fun _ => by kernel_rfl
 have hi4 : ∀ w, (Instr.index 175 (.agg #[.int .i32 0, .int .i32 128, .int .i32 2048, .int .i32 55296, .int .i32 57344, .int .i32 65536]) (.int .i64 4)).run Tryz.prog w = .ok (.int .i32 57344) w := fun _ => by kernel_rfl
 have hi5 : ∀ w, (Instr.index 175 (.agg #[.int .i32 0, .int .i32 128, .int .i32 2048, .int .i32 55296, .int .i32 57344, .int .i32 65536]) (.int .i64 5)).run Tryz.prog w = .ok (.int .i32 65536) w := fun _ => by kernel_rfl
 go_loopw [12] (fun s12 wr => ∃ i : Nat, s12 = .int .i64 i ∧ i ≤ 6 ∧ wr = w) (fun s12 _ => 6 - (RowKit.intOf s12).toNat)
 case atStart => exact ⟨0, rfl, by omega, rfl⟩
 case round =>
  obtain ⟨i, rfl, hi, rfl⟩ := hrel; by_cases h6 : i < 6
  · have z0 : (i : Int) < 6 := by omega
    have w2' : IntKind.i64.wrap ((i : Int) + 1) = (i : Int) + 1 := IntWalk.i64_in _ (by omega); obtain rfl | rfl | rfl | rfl | rfl | rfl : i = 0 ∨ i = 1 ∨ i = 2 ∨ i = 3 ∨ i = 4 ∨ i = 5 := by omega
    · go_upto_region 7 with (first | (go_at_call 72; refine (HBS.out 0 (by decide)).mono ?_; rintro e w1 ⟨k, rfl, hk, rfl⟩))
      go_loopw [5] (fun s5 wx => s5 = .int .i64 k ∧ wx = wr) (fun _ _ => 0)
      case atStart => exact ⟨rfl, rfl⟩
      case round =>
       obtain ⟨rfl, rfl⟩ := hrel; clear hk; go_wp2_with (fail); go_roundw
       case rel => exact ⟨1, by go_num, by omega, trivial⟩
       case measure => (simp [RowKit.intOf] <;> omega)
    · go_upto_region 7 with (first | (go_at_call 72; refine (HBS.out 128 (by decide)).mono ?_; rintro e w1 ⟨k, rfl, hk, rfl⟩))
      go_loopw [5] (fun s5 wx => s5 = .int .i64 k ∧ wx = wr) (fun _ _ => 0)
      case atStart => exact ⟨rfl, rfl⟩
      case round =>
       obtain ⟨rfl, rfl⟩ := hrel; clear hk; go_wp2_with (fail); go_roundw
       case rel => exact ⟨2, by go_num, by omega, trivial⟩
       case measure => (simp [RowKit.intOf] <;> omega)
    · go_upto_region 7 with (first | (go_at_call 72; refine (HBS.out 2048 (by decide)).mono ?_; rintro e w1 ⟨k, rfl, hk, rfl⟩))
      go_loopw [5] (fun s5 wx => s5 = .int .i64 k ∧ wx = wr) (fun _ _ => 0)
      case atStart => exact ⟨rfl, rfl⟩
      case round =>
       obtain ⟨rfl, rfl⟩ := hrel; clear hk; go_wp2_with (fail); go_roundw
       case rel => exact ⟨3, by go_num, by omega, trivial⟩
       case measure => (simp [RowKit.intOf] <;> omega)
    · go_upto_region 7 with (first | (go_at_call 72; refine (HBS.out 55296 (by decide)).mono ?_; rintro e w1 ⟨k, rfl, hk, rfl⟩))
      obtain ⟨ke, hke⟩ := List.getElem?_of_mem (H.out.2.2.1.wid 57344 (by decide)); have hkk := rise_getq H.out.2.1.rise hk hke (by decide); have HK := hid (And.intro hk hke); have hkl := (List.getElem?_eq_some_iff.1 hke).1; clear hk hke; go_loopw [5] (fun s5 wx => ∃ m : Nat, s5 = .int .i64 m ∧ k ≤ m ∧ m ≤ ke ∧ wx = wr) (fun s5 _ => ke - (RowKit.intOf s5).toNat)
      case atStart => exact ⟨k, rfl, Nat.le_refl _, by omega, rfl⟩
      case round =>
       obtain ⟨m, rfl, hm1, hm2, rfl⟩ := hrel; obtain ⟨c, hc⟩ : ∃ c, T.cuts[m]? = some c := ⟨_, List.getElem?_eq_getElem (by omega)⟩; have hcm := tab_cut H.out.1 hc; have zm : (m : Int) < (T.cuts.length : Int) := by omega
       have w3' : IntKind.i64.wrap ((m : Int) + 1) = (m : Int) + 1 := IntWalk.i64_in _ (by omega); by_cases hme : m < ke
       · have hc1 := rise_getq' H.out.2.1.rise hc HK.out.2 hme
         have hc0 : 55296 ≤ c := by
          rcases Nat.lt_or_ge k m with h | h
          · have := rise_getq' H.out.2.1.rise HK.out.1 hc h; omega
          · obtain rfl : m = k := by omega
            have := HK.out.1; rw [hc] at this; cases this; decide
         have hsur := H.out.2.2.1.sur m c hc hc0 hc1; have HSUR := hid hsur; clear hsur hc hc0; go_upto_region 10 with (fail)
         go_loopw [45] (fun s45 wx => ∃ j : Nat, s45 = .int .i64 j ∧ j ≤ T.goes.length ∧ wx = wr) (fun s45 _ => T.goes.length - (RowKit.intOf s45).toNat)
         case atStart => exact ⟨0, rfl, by omega, rfl⟩
         case round =>
          obtain ⟨j, rfl, hj, rfl⟩ := hrel; by_cases hjl : j < T.goes.length
          · have zj : (j : Int) < (T.goes.length : Int) := by omega
            have w4' : IntKind.i64.wrap ((j : Int) + 1) = (j : Int) + 1 := IntWalk.i64_in _ (by omega); obtain ⟨row, hrw⟩ : ∃ row, T.goes[j]? = some row := ⟨_, List.getElem?_eq_getElem hjl⟩; have hrm := List.mem_of_getElem? hrw; have hrl := H.out.2.1.rows row hrm; obtain ⟨v, hv⟩ : ∃ v, row[m]? = some v := ⟨_, List.getElem?_eq_getElem (by omega)⟩; have hv0 := HSUR.out row hrm v hv; obtain ⟨rb, rcap, q1, q2, q3⟩ := H.out.1.goes j row hrw; have q4 := q3 m v hv; have lrb : rb < wr.heap.size := Nat.lt_of_lt_of_le q2 hB; have zr : (m : Int) < (row.length : Int) := by omega
            have y1 : ¬ (0 : Int) ≤ v := by omega
            clear q3 hrw hv hrm hrl; go_wp2_with (fail); go_roundw
            case rel => exact ⟨j + 1, by go_num, by omega, trivial⟩
            case measure => (simp [RowKit.intOf] <;> omega)
          · obtain rfl : j = T.goes.length := by omega
            have zj : ¬ (T.goes.length : Int) < (T.goes.length : Int) := by omega
            go_wp2_with (fail); go_roundw
            case rel => exact ⟨m + 1, by go_num, by omega, by omega, trivial⟩
            case measure => (simp [RowKit.intOf] <;> omega)
       · obtain rfl : m = ke := by omega
         obtain rfl : c = 57344 := by
          have := HK.out.2; rw [hc] at this; cases this; rfl
         clear hc; go_wp2_with (fail); go_roundw
         case rel => exact ⟨4, by go_num, by omega, trivial⟩
         case measure => (simp [RowKit.intOf] <;> omega)
    · go_upto_region 7 with (first | (go_at_call 72; refine (HBS.out 57344 (by decide)).mono ?_; rintro e w1 ⟨k, rfl, hk, rfl⟩))
      go_loopw [5] (fun s5 wx => s5 = .int .i64 k ∧ wx = wr) (fun _ _ => 0)
      case atStart => exact ⟨rfl, rfl⟩
      case round =>
       obtain ⟨rfl, rfl⟩ := hrel; clear hk; go_wp2_with (fail); go_roundw
       case rel => exact ⟨5, by go_num, by omega, trivial⟩
       case measure => (simp [RowKit.intOf] <;> omega)
    · go_upto_region 7 with (first | (go_at_call 72; refine (HBS.out 65536 (by decide)).mono ?_; rintro e w1 ⟨k, rfl, hk, rfl⟩))
      go_loopw [5] (fun s5 wx => s5 = .int .i64 k ∧ wx = wr) (fun _ _ => 0)
      case atStart => exact ⟨rfl, rfl⟩
      case round =>
       obtain ⟨rfl, rfl⟩ := hrel; clear hk; go_wp2_with (fail); go_roundw
       case rel => exact ⟨6, by go_num, by omega, trivial⟩
       case measure => (simp [RowKit.intOf] <;> omega)
  · have z0 : ¬ (i : Int) < 6 := by omega
    go_upto_region 17 with (fail)
    go_loopw [10, 61] (fun s10 s61 wx => ∃ j : Nat, s61 = .int .i64 j ∧ j ≤ T.goes.length ∧ wx = wr) (fun _ s61 _ => T.goes.length - (RowKit.intOf s61).toNat)
    case atStart => exact ⟨0, rfl, by omega, rfl⟩
    case round =>
     obtain ⟨j, rfl, hj, rfl⟩ := hrel; by_cases hjl : j < T.goes.length
     · have zj : (j : Int) < (T.goes.length : Int) := by omega
       have w4' : IntKind.i64.wrap ((j : Int) + 1) = (j : Int) + 1 := IntWalk.i64_in _ (by omega); obtain ⟨row, hrw⟩ : ∃ row, T.goes[j]? = some row := ⟨_, List.getElem?_eq_getElem hjl⟩; have hz := H.out.2.2.1.zero row (List.mem_of_getElem? hrw); obtain ⟨rb, rcap, q1, q2, q3⟩ := H.out.1.goes j row hrw; have hrl := H.out.2.1.rows row (List.mem_of_getElem? hrw); have hct := Tryz.slices_Contains_int rb 0 row.length rcap row 0 wr (Nat.le_refl _) (by omega) (fun x hx => by
        rw [Nat.zero_add]; exact q3 x _ (by rw [List.getD_eq_getElem?_getD, List.getElem?_eq_getElem hx]; rfl))
       rw [List.take_length, hz] at hct; have HCT := hid hct; clear hct q3 hrw hz hrl; go_wp2_with (first | (go_at_call 73; refine (HCT.out).mono ?_; rintro e w1 ⟨rfl, rfl⟩)); go_roundw
       case rel => exact ⟨j + 1, by go_num, by omega, trivial⟩
       case measure => (simp [RowKit.intOf] <;> omega)
     · obtain rfl : j = T.goes.length := by omega
       have zj : ¬ (T.goes.length : Int) < (T.goes.length : Int) := by omega
       obtain ⟨r, hr, hr0⟩ := H.out.2.2.1.rule0; have hcr := H.out.1.rule 0 r hr; have zl : (0 : Int) < (T.rule.length : Int) := by
        have := (List.getElem?_eq_some_iff.1 hr).1; omega
       have y1 : decide (r < 0) = true := decide_eq_true hr0; clear hr; go_wp2_with (fail); go_ret; exact ⟨rfl, rfl⟩
end
end Go.Proofs.YtghpmhllpaheiaaGreatDoor
