/-
  Part of the proof: Lay1, Sets. No condition beyond those in the statements.
-/
import Derived.Laws.Bits64
import Derived.Laws.Bits64b
import Derived.Test.YtghpmhllpaheiaaGreatDoorK01
import Derived.Test.YtghpmhllpaheiaaGreatDoorK00
import Derived.Test.YtghpmhllpaheiaaGreatDoorK06
set_option linter.unusedVariables false
set_option linter.unusedSimpArgs false
set_option maxRecDepth 100000
namespace Go.Proofs.YtghpmhllpaheiaaGreatDoor
section
open Go.RowKit Go.Lib
abbrev knotP (a : Nat) : Value := .pointer (some ⟨a, 0, none⟩)
structure KAt (w : World) (tag : Nat → Nat) (adr : List Nat) (vs : List Value) (G : List Knot) (seen : Nat → Bool) : Prop where
 la : adr.length = G.length
 lv : vs.length = G.length
 cell : ∀ i, i < G.length → w.heap[adr.getD i 0]? = some (.cells #[vs.getD i undef, .int .i64 (placeOf G i), .bool (finOf G i), .bool (seen i)] 143 (0, 0))
 row : ∀ i, i < G.length → w.ownsRow 0 141 1 (vs.getD i undef) (toOf G i).length ((toOf G i).map fun j => knotP (adr.getD j 0))
 ta : ∀ i, i < G.length → tag (adr.getD i 0) = 10 + 2 * i
 tv : ∀ i g, i < G.length → (vs.getD i undef).ownBlock = some g → tag g = 11 + 2 * i
 wf : ∀ i j, i < G.length → j ∈ toOf G i → j < G.length
structure KUpd (tag tag' : Nat → Nat) (w w' : World) : Prop where
 os : w'.os = w.os
 tape : w'.tape = w.tape
 output : w'.output = w.output
 size : w.heap.size ≤ w'.heap.size
 tags : ∀ b, b < w.heap.size → tag' b = tag b
 keep : ∀ b, b < w.heap.size → tag b < 10 → w'.heap[b]? = w.heap[b]?
theorem KUpd.refl (tag : Nat → Nat) (w : World) : KUpd tag tag w w := ⟨rfl, rfl, rfl, Nat.le_refl _, fun _ _ => rfl, fun _ _ _ => rfl⟩
theorem KUpd.trans {t1 t2 t3 : Nat → Nat} {a b c : World} (h : KUpd t1 t2 a b) (k : KUpd t2 t3 b c) : KUpd t1 t3 a c :=
 ⟨k.os.trans h.os, k.tape.trans h.tape, k.output.trans h.output, Nat.le_trans h.size k.size, fun x hx => (k.tags x (Nat.lt_of_lt_of_le hx h.size)).trans (h.tags x hx),
  fun x hx ht => (k.keep x (Nat.lt_of_lt_of_le hx h.size) (by rw [h.tags x hx]; exact ht)).trans (h.keep x hx ht)⟩
theorem KUpd.below {tag : Nat → Nat} {w w' : World} (h : Below w.heap.size w w') : KUpd tag tag w w' := ⟨h.os, h.tape, h.output, h.size, fun _ _ => rfl, fun b hb _ => h.block b hb⟩
theorem KAt.below {w w' : World} {tag : Nat → Nat} {adr : List Nat} {vs : List Value} {G : List Knot} {seen : Nat → Bool} (h : KAt w tag adr vs G seen) (hb : Below w.heap.size w w') : KAt w' tag adr vs G seen :=
 ⟨h.la, h.lv, fun i hi => (hb.block _ (lt_of_some (h.cell i hi))).trans (h.cell i hi), fun i hi => row_below (h.row i hi) hb, h.ta, h.tv, h.wf⟩
theorem KAt.apart {w w' : World} {tag tag' : Nat → Nat} {adr : List Nat} {vs : List Value} {G : List Knot} {seen : Nat → Bool} (h : KAt w tag adr vs G seen)
 (ht : ∀ b, b < w.heap.size → tag' b = tag b) (hk : ∀ b, b < w.heap.size → 10 ≤ tag b → w'.heap[b]? = w.heap[b]?) : KAt w' tag' adr vs G seen := by
 refine ⟨h.la, h.lv, fun i hi => ?_, fun i hi => ?_, fun i hi => ?_, fun i g hi hg => ?_, h.wf⟩
 · exact (hk _ (lt_of_some (h.cell i hi)) (by rw [h.ta i hi]; omega)).trans (h.cell i hi)
 · exact row_ext (h.row i hi) fun g hg => hk g ((h.row i hi).lt g hg).2 (by rw [h.tv i g hi hg]; omega)
 · rw [ht _ (lt_of_some (h.cell i hi))]; exact h.ta i hi
 · rw [ht _ ((h.row i hi).lt g hg).2]; exact h.tv i g hi hg
def tagSet (tag : Nat → Nat) (n c : Nat) : Nat → Nat := fun b => if b = n then c else tag b
theorem tagSet_old {tag : Nat → Nat} {n c b : Nat} (h : b ≠ n) : tagSet tag n c b = tag b := if_neg h
theorem tagSet_new (tag : Nat → Nat) (n c : Nat) : tagSet tag n c n = c := if_pos rfl
theorem getD_app_left {α : Type} {l r : List α} {i : Nat} {d : α} (h : i < l.length) : (l ++ r).getD i d = l.getD i d := by
 rw [List.getD_eq_getElem?_getD, List.getElem?_append_left h, ← List.getD_eq_getElem?_getD]
theorem getD_app_len {α : Type} {l : List α} {x d : α} : (l ++ [x]).getD l.length d = x := by
 rw [List.getD_eq_getElem?_getD, List.getElem?_append_right (Nat.le_refl _)]; simp
theorem toOf_app {G : List Knot} {k : Knot} {i : Nat} (h : i < G.length) : toOf (G ++ [k]) i = toOf G i := by unfold toOf; rw [List.getElem?_append_left h]
theorem placeOf_app {G : List Knot} {k : Knot} {i : Nat} (h : i < G.length) : placeOf (G ++ [k]) i = placeOf G i := by unfold placeOf; rw [List.getElem?_append_left h]
theorem finOf_app {G : List Knot} {k : Knot} {i : Nat} (h : i < G.length) : finOf (G ++ [k]) i = finOf G i := by unfold finOf; rw [List.getElem?_append_left h]
theorem KAt.push {w : World} {tag : Nat → Nat} {adr : List Nat} {vs : List Value} {G : List Knot} {seen : Nat → Bool} (h : KAt w tag adr vs G seen) (n : Nat) (hs : seen G.length = false) :
 KAt (w.alloc (.cells #[.slice none 0 0, .int .i64 n, .bool false, .bool false] 143)) (tagSet tag w.heap.size (10 + 2 * G.length)) (adr ++ [w.heap.size]) (vs ++ [.slice none 0 0]) (G ++ [⟨[], n, false⟩]) seen := by
 have hb := (Below.refl w.heap.size w).alloc (Nat.le_refl _) (.cells #[.slice none 0 0, .int .i64 n, .bool false, .bool false] 143); have hlen : (G ++ [(⟨[], n, false⟩ : Knot)]).length = G.length + 1 := by simp
 refine ⟨by simp [h.la], by simp [h.lv], fun i hi => ?_, fun i hi => ?_, fun i hi => ?_, fun i g hi hg => ?_, fun i j hi hj => ?_⟩
 · rcases Nat.lt_or_ge i G.length with hl | hl
   · rw [getD_app_left (by rw [h.la]; exact hl), getD_app_left (by rw [h.lv]; exact hl), placeOf_app hl, finOf_app hl]
     exact (hb.block _ (lt_of_some (h.cell i hl))).trans (h.cell i hl)
   · have : i = G.length := by omega
     subst this
     conv => lhs; rw [← h.la, getD_app_len, heap_get, if_pos rfl]
     conv => rhs; rw [← h.lv, getD_app_len, h.lv]
     simp [placeOf, finOf, hs]
 · rcases Nat.lt_or_ge i G.length with hl | hl
   · rw [getD_app_left (by rw [h.lv]; exact hl), toOf_app hl]
     have e : (toOf G i).map (fun j => knotP ((adr ++ [w.heap.size]).getD j 0)) = (toOf G i).map fun j => knotP (adr.getD j 0) :=
      List.map_congr_left fun j hj => by rw [getD_app_left (by rw [h.la]; exact h.wf i j hl hj)]
     rw [e]; exact row_below (h.row i hl) hb
   · have : i = G.length := by omega
     subst this; have e : toOf (G ++ [(⟨[], n, false⟩ : Knot)]) G.length = [] := by simp [toOf]
     rw [e]
     conv => rw [← h.lv, getD_app_len]
     exact row_nil _ _ _
 · rcases Nat.lt_or_ge i G.length with hl | hl
   · rw [getD_app_left (by rw [h.la]; exact hl), tagSet_old (by have := lt_of_some (h.cell i hl); omega)]
     exact h.ta i hl
   · have : i = G.length := by omega
     subst this; rw [← h.la, getD_app_len, tagSet_new, h.la]
 · rcases Nat.lt_or_ge i G.length with hl | hl
   · rw [getD_app_left (by rw [h.lv]; exact hl)] at hg
     rw [tagSet_old (by have := ((h.row i hl).lt g hg).2; omega)]; exact h.tv i g hl hg
   · have : i = G.length := by omega
     subst this; rw [← h.lv, getD_app_len] at hg; simp [Value.ownBlock] at hg
 · rcases Nat.lt_or_ge i G.length with hl | hl
   · rw [toOf_app hl] at hj
     have := h.wf i j hl hj; omega
   · have : i = G.length := by omega
     subst this; simp [toOf] at hj
theorem KUpd.push (tag : Nat → Nat) (w : World) (o : Obj) (c : Nat) : KUpd tag (tagSet tag w.heap.size c) w (w.alloc o) :=
 have hb := (Below.refl w.heap.size w).alloc (Nat.le_refl _) o
 ⟨hb.os, hb.tape, hb.output, hb.size, fun b hx => tagSet_old (by omega), fun b hx _ => hb.block b hx⟩
theorem getD_set_same {α : Type} {l : List α} {i : Nat} {x d : α} (h : i < l.length) : (l.set i x).getD i d = x := by
 rw [List.getD_eq_getElem?_getD, List.getElem?_set_self h]; rfl
theorem getD_set_other {α : Type} {l : List α} {i j : Nat} {x d : α} (h : i ≠ j) : (l.set i x).getD j d = l.getD j d := by
 rw [List.getD_eq_getElem?_getD, List.getElem?_set_ne h, ← List.getD_eq_getElem?_getD]
theorem toOf_mod {G : List Knot} {f : Knot → Knot} {i j : Nat} (h : i ≠ j) : toOf (G.modify i f) j = toOf G j := by unfold toOf; rw [List.getElem?_modify]; simp [h]
theorem placeOf_mod {G : List Knot} {f : Knot → Knot} (hf : ∀ k, (f k).place = k.place) (i j : Nat) : placeOf (G.modify i f) j = placeOf G j := by
 unfold placeOf; rw [List.getElem?_modify]; cases G[j]? <;> simp; split <;> simp [hf]
theorem finOf_mod {G : List Knot} {f : Knot → Knot} (hf : ∀ k, (f k).fin = k.fin) (i j : Nat) : finOf (G.modify i f) j = finOf G j := by
 unfold finOf; rw [List.getElem?_modify]; cases G[j]? <;> simp; split <;> simp [hf]
theorem toOf_link {G : List Knot} {i : Nat} {l : List Nat} (h : i < G.length) : toOf (G.modify i (linkK l)) i = toOf G i ++ l := by
 unfold toOf; rw [List.getElem?_modify, List.getElem?_eq_getElem h]; simp [linkK]
theorem KAt.link {w w2 : World} {tag : Nat → Nat} {adr : List Nat} {vs : List Value} {G : List Knot} {seen : Nat → Bool} (h : KAt w tag adr vs G seen) (i : Nat) (hi : i < G.length) (l : List Nat) (hl : ∀ j ∈ l, j < G.length)
 (o : Obj) (v' : Value) (hrow : w2.ownsRow 0 141 1 v' ((toOf G i).length + l.length) ((toOf G i).map (fun j => knotP (adr.getD j 0)) ++ l.map fun j => knotP (adr.getD j 0)))
 (hg : (w.alloc o).grownBy w2 (vs.getD i undef).ownBlock) (hb : v'.ownBlock = (vs.getD i undef).ownBlock ∨ v'.ownBlock = some (w.alloc o).heap.size) :
 ∃ tag', KAt (w2.setCell ⟨adr.getD i 0, 0, none⟩ v') tag' adr (vs.set i v') (G.modify i (linkK l)) seen ∧ KUpd tag tag' w (w2.setCell ⟨adr.getD i 0, 0, none⟩ v') := by
 have hB := (Below.refl w.heap.size w).alloc (Nat.le_refl _) o; have h1 := h.below hB; have hai := lt_of_some (h.cell i hi); have hkeep : ∀ b, b < w.heap.size → tag b ≠ 10 + 2 * i → tag b ≠ 11 + 2 * i → (w2.setCell ⟨adr.getD i 0, 0, none⟩ v').heap[b]? = w.heap[b]? := by
  intro b hbs h10 h11; rw [heap_set _ _ _ _ (fun e => h10 (by rw [show b = adr.getD i 0 from e]; exact h.ta i hi))]; exact (hg.block b (Nat.lt_of_lt_of_le hbs hB.size) (fun e => h11 (h.tv i b hi e.symm))).trans (hB.block b hbs)
 have hsz : w.heap.size + 1 ≤ w2.heap.size := by have := hg.size; simpa using this
 have hv2 : ∀ g, v'.ownBlock = some g → g < w2.heap.size ∧ (tag g = 11 + 2 * i ∧ g < w.heap.size ∨ g = w.heap.size + 1) := by
  intro g hgv; refine ⟨(hrow.lt g hgv).2, ?_⟩
  rcases hb with e | e
  · rw [hgv] at e
    have := ((h.row i hi).lt g e.symm).2; exact .inl ⟨h.tv i g hi e.symm, this⟩
  · rw [hgv] at e; cases e; exact .inr (by simp)
 refine ⟨tagSet tag (w.heap.size + 1) (11 + 2 * i), ⟨?_, ?_, ?_, ?_, ?_, ?_, ?_⟩, ?_⟩
 · simpa using h.la
 · simpa using h.lv
 · intro j hj
   have hj' : j < G.length := by simpa using hj
   rw [placeOf_mod (f := linkK l) (fun _ => rfl), finOf_mod (f := linkK l) (fun _ => rfl)]; by_cases e : i = j
   · subst e
     rw [getD_set_same (by rw [h.lv]; exact hi)]; have hc : w2.heap[adr.getD i 0]? = some (.cells #[vs.getD i undef, .int .i64 (placeOf G i), .bool (finOf G i), .bool (seen i)] 143 (0, 0)) :=
      (hg.block _ (Nat.lt_of_lt_of_le hai hB.size) (fun e => by have := h.tv i _ hi e.symm; rw [h.ta i hi] at this; omega)).trans ((hB.block _ hai).trans (h.cell i hi))
     rw [heap_set_same _ _ _ _ _ _ _ hc]; rfl
   · rw [getD_set_other e, hkeep _ (lt_of_some (h.cell j hj')) (by rw [h.ta j hj']; omega) (by rw [h.ta j hj']; omega)]
     exact h.cell j hj'
 · intro j hj
   have hj' : j < G.length := by simpa using hj
   by_cases e : i = j
   · subst e
     rw [getD_set_same (by rw [h.lv]; exact hi), toOf_link hi, List.length_append, List.map_append]; refine row_ext hrow fun g hgv => ?_; rw [heap_set _ _ _ _ (by
      intro e2; have e3 : g = adr.getD i 0 := e2
      rcases (hv2 g hgv).2 with ⟨h1, _⟩ | h1
      · rw [e3, h.ta i hi] at h1; omega
      · omega)]
   · rw [getD_set_other e, toOf_mod e]
     exact row_ext (h.row j hj') fun g hgv => hkeep g ((h.row j hj').lt g hgv).2 (by rw [h.tv j g hj' hgv]; omega) (by rw [h.tv j g hj' hgv]; omega)
 · intro j hj
   have hj' : j < G.length := by simpa using hj
   rw [tagSet_old (by have := lt_of_some (h.cell j hj'); omega)]; exact h.ta j hj'
 · intro j g hj hgv
   have hj' : j < G.length := by simpa using hj
   by_cases e : i = j
   · subst e
     rw [getD_set_same (by rw [h.lv]; exact hi)] at hgv
     rcases (hv2 g hgv).2 with ⟨h1, h2⟩ | h1
     · rw [tagSet_old (by omega)]; exact h1
     · rw [h1, tagSet_new]
   · rw [getD_set_other e] at hgv
     rw [tagSet_old (by have := ((h.row j hj').lt g hgv).2; omega)]; exact h.tv j g hj' hgv
 · intro a b ha hb'
   have ha' : a < G.length := by simpa using ha
   simp only [List.length_modify]; by_cases e : i = a
   · subst e
     rw [toOf_link hi, List.mem_append] at hb'
     rcases hb' with hb' | hb'
     · exact h.wf i b hi hb'
     · exact hl b hb'
   · rw [toOf_mod e] at hb'
     exact h.wf a b ha' hb'
 · refine ⟨hg.os.trans hB.os, hg.tape.trans hB.tape, hg.output.trans hB.output, by simp; omega, fun b hbs => tagSet_old (by omega), fun b hbs ht => hkeep b hbs (by omega) (by omega)⟩
end
section
open Go.RowKit Go.Lib
abbrev W64 : Nat := 18446744073709551616
def setV (s : Set2) : Value := .agg #[.int .u64 s.1, .int .u64 s.2]
def Set2.Ok (s : Set2) : Prop := s.1 < W64 ∧ s.2 < W64
def SetAt (w : World) (b : Nat) (s : Set2) : Prop := w.heap[b]? = some (.cells #[.int .u64 s.1, .int .u64 s.2] 147 (0, 0))
theorem SetAt.cells {w : World} {b : Nat} {s : Set2} (h : SetAt w b s) : w.cell? ⟨b, 0, none⟩ = some (.int .u64 s.1) ∧ w.cell? ⟨b, 1, none⟩ = some (.int .u64 s.2) := by
 have c0 := cell_of w b 0 _ _ _ h; have c1 := cell_of w b 1 _ _ _ h; simp only [List.getElem?_toArray, List.getElem?_cons_zero, List.getElem?_cons_succ] at c0 c1; exact ⟨c0, c1⟩
theorem bits_or_u64 (a b : Nat) (ha : a < W64) (hb : b < W64) : bits .or .u64 (a : Int) (b : Int) = ((a ||| b : Nat) : Int) := bits_or_u64_nat a b ha hb
theorem bits_or_pow (a k : Nat) (ha : a < W64) (hk : k < 64) : bits .or .u64 (a : Int) ((2 : Int) ^ k) = ((a ||| 2 ^ k : Nat) : Int) := by
 rw [← bits_or_u64 a (2 ^ k) ha (Nat.pow_lt_pow_right (by decide) hk)]; push_cast; rfl
theorem pow_lt_64 (k : Nat) (hk : k < 64) : 2 ^ k < W64 := Nat.pow_lt_pow_right (by decide) hk
theorem wrap_pow64 (k : Nat) (hk : k < 64) : IntKind.u64.wrap ((2 : Int) ^ k) = ((2 ^ k : Nat) : Int) := by
 have h := pow_lt_64 k hk; rw [IntKind.wrap_u64, show ((2 : Int) ^ k) = ((2 ^ k : Nat) : Int) by push_cast; rfl]; generalize (2 : Nat) ^ k = p at h; unfold W64 at h; omega
theorem add_ok {s : Set2} {n : Nat} (h : s.Ok) (hn : n < 128) : (s.add n).Ok := by
 unfold Set2.add; split
 · exact ⟨Nat.or_lt_two_pow (n := 64) h.1 (pow_lt_64 n (by omega)), h.2⟩
 · exact ⟨h.1, Nat.or_lt_two_pow (n := 64) h.2 (pow_lt_64 (n - 64) (by omega))⟩
def AddO (b n : Nat) (s : Set2) (w : World) (e : Ending) (w' : World) : Prop := e = .returned (.tuple #[]) ∧ SetAt w' b (s.add n) ∧ w.grownBy w' (some b)
theorem setAdd_any (b n : Nat) (s : Set2) (w : World) (h : SetAt w b s) (hs : s.Ok) (hn : n < 128) :
 Calls Tryz.prog 62 #[.pointer (some ⟨b, 0, none⟩), .int .i64 n] w (AddO b n s w) := by
 have H := hid h; have hl := lt_of_some h; obtain ⟨c0, c1⟩ := h.cells; have f0 := free_of w b 0 _ _ h; have f1 := free_of w b 1 _ _ h; clear h; by_cases h64 : n < 64
 · have hz : (n : Int) < 64 := by omega
   have e1 : (n : Int) / 64 = 0 := by omega
   have e2 : (n : Int) % 64 = (n : Int) := by omega
   have e3 := wrap_pow64 n h64; have e4 := bits_or_pow s.1 n hs.1 h64; have hadd : s.add n = (s.1 ||| 2 ^ n, s.2) := by unfold Set2.add; rw [if_pos h64]
   have HA := hid hadd; clear hadd; go_enter Tryz.func62, Tryz.ntmps62
   go_region
   all_goals (go_end0; exact ⟨rfl, by rw [HA.out]; exact heap_set_same w b 0 _ _ _ _ H.out, grown_drewN (grown_set1 w b 0 _) 1⟩)
 · have e1 : (n : Int) / 64 = 1 := by omega
   obtain ⟨k, hk⟩ : ∃ k, k = n - 64 := ⟨_, rfl⟩; have e2 : (n : Int) % 64 = (k : Int) := by omega
   have hk64 : k < 64 := by omega
   have e3 := wrap_pow64 k hk64; have e4 := bits_or_pow s.2 k hs.2 hk64; have hadd : s.add n = (s.1, s.2 ||| 2 ^ k) := by unfold Set2.add; rw [if_neg h64, hk]
   have HA := hid hadd; have hkz : (k : Int) < 64 := by omega
   clear hadd hk; go_enter Tryz.func62, Tryz.ntmps62
   go_region
   all_goals (go_end0; exact ⟨rfl, by rw [HA.out]; exact heap_set_same w b 1 _ _ _ _ H.out, grown_drewN (grown_set1 w b 1 _) 1⟩)
theorem has_bit (a k : Nat) (ha : a < W64) (hk : k < 64) : (bits .and .u64 ((a : Int) / (2 : Int) ^ k) 1 == 1) = a.testBit k := by
 have h1 : ((a : Int) / (2 : Int) ^ k) = ((a / 2 ^ k : Nat) : Int) := by push_cast; rfl
 have hb : bits .and .u64 ((a / 2 ^ k : Nat) : Int) ((1 : Nat) : Int) = (((a / 2 ^ k) &&& 1 : Nat) : Int) := bits_and_u64_nat _ _ (Nat.lt_of_le_of_lt (Nat.div_le_self _ _) ha) (by decide); rw [h1, show (1 : Int) = ((1 : Nat) : Int) from rfl, hb, Nat.and_one_is_mod, Nat.testBit_eq_decide_div_mod_eq]; rw [Bool.eq_iff_iff]; simp; omega
theorem setHas_any (n : Nat) (s : Set2) (w : World) (hs : s.Ok) (hn : n < 128) :
 Calls Tryz.prog 63 #[setV s, .int .i64 n] w fun e w' => e = .returned (.bool (s.has n)) ∧ Below w.heap.size w w' := by
 unfold setV; have HB := hid ((Below.refl w.heap.size w).alloc (Nat.le_refl _) (.cells #[.int .u64 s.1, .int .u64 s.2] 147)); by_cases h64 : n < 64
 · have hz : (n : Int) < 64 := by omega
   have e1 : (n : Int) / 64 = 0 := by omega
   have e2 : (n : Int) % 64 = (n : Int) := by omega
   have hadd : s.has n = s.1.testBit n := by unfold Set2.has; rw [if_pos h64]
   have e3 := has_bit s.1 n hs.1 h64; rw [hadd]; clear hadd; go_enter Tryz.func63, Tryz.ntmps63; go_wp2; go_ret; exact ⟨rfl, HB.out⟩
 · obtain ⟨k, hk⟩ : ∃ k, k = n - 64 := ⟨_, rfl⟩
   have e1 : (n : Int) / 64 = 1 := by omega
   have e2 : (n : Int) % 64 = (k : Int) := by omega
   have hz : (k : Int) < 64 := by omega
   have hadd : s.has n = s.2.testBit k := by unfold Set2.has; rw [if_neg h64, hk]
   have e3 := has_bit s.2 k hs.2 (by omega); rw [hadd]; clear hadd hk; go_enter Tryz.func63, Tryz.ntmps63; go_wp2; go_ret; exact ⟨rfl, HB.out⟩
theorem setOr_any (s o : Set2) (w : World) (hs : s.Ok) (ho : o.Ok) :
 Calls Tryz.prog 59 #[setV s, setV o] w fun e w' => e = .returned (setV (s.or o)) ∧ Below w.heap.size w w' := by
 unfold setV Set2.or; have e0 := bits_or_u64 s.1 o.1 hs.1 ho.1; have e1 := bits_or_u64 s.2 o.2 hs.2 ho.2; go_enter Tryz.func59, Tryz.ntmps59; go_wp2; refine bodyPost_ret (v := .agg #[.int .u64 ((s.1 ||| o.1 : Nat) : Int), .int .u64 ((s.2 ||| o.2 : Nat) : Int)]) (by simp [results, Tryz.results59, go_sem]) rfl ⟨rfl, ?_⟩; exact (((Below.refl _ w).alloc (Nat.le_refl _) _).alloc (by simp) _).alloc (by simp; omega) _
theorem eq_set (a b c d : Int) (w : World) : (Op.equalIn 10000 147 (.agg #[.int .u64 a, .int .u64 b]) (.agg #[.int .u64 c, .int .u64 d])).run Tryz.prog w = .ok (a == c && b == d) w := by
 have u3 := Tryz.underlying145; have a3 := Tryz.isAgg145; have z3 := Tryz.sizeOf145; rw [show (10000 : Nat) = 9999 + 1 from rfl, Op.equalIn]; simp only [Sem.run_bind, run_underlying Tryz.underlying147, Result.andThen_ok]; simp only [Std.Legacy.Range.forIn_eq_forIn_range', Std.Legacy.Range.size, Nat.sub_zero, Nat.add_sub_cancel, Nat.div_one, List.range'_succ, List.range'_zero, List.forIn_cons, List.forIn_nil]; go_simp; by_cases h1 : a = c <;> by_cases h2 : b = d <;> simp [h1, h2]
theorem setEmpty_any (s : Set2) (w : World) :
 Calls Tryz.prog 64 #[setV s] w fun e w' => e = .returned (.bool (decide (s = (0, 0)))) ∧ Below w.heap.size w w' := by
 have he : decide (s = (0, 0)) = (((s.1 : Int) == 0) && ((s.2 : Int) == 0)) := by
  rw [Bool.eq_iff_iff]; obtain ⟨a, b⟩ := s; simp
 rw [he]; unfold setV; have hq := eq_set s.1 s.2 0 0; go_enter Tryz.func64, Tryz.ntmps64; go_wp2; go_ret; exact ⟨rfl, (Below.refl _ w).alloc (Nat.le_refl _) _⟩
end
end Go.Proofs.YtghpmhllpaheiaaGreatDoor
