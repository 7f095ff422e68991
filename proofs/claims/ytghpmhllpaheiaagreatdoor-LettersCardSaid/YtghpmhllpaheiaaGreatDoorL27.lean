/-
  Part of the proof: Mk1, Mk2, Com1, Cp1, Cp2, Kp1. No condition beyond those in the statements.
-/
import Derived.Test.YtghpmhllpaheiaaGreatDoorL20
import Derived.Test.YtghpmhllpaheiaaGreatDoorL08
set_option linter.unusedVariables false
set_option linter.unusedSimpArgs false
set_option maxRecDepth 100000
set_option maxHeartbeats 40000000
namespace Go.Proofs.YtghpmhllpaheiaaGreatDoor
section
open Go.RowKit Go.Lib
theorem elemRow : zcp Tryz.prog 74 39 1 24 := zcp.of (z := .slice none 0 0) Tryz.underlying74 (by kernel_rfl) rfl (by decide)
theorem zi2 (l r : List Set2) : setCells (l ++ r) = setCells l ++ setCells r := by simp [setCells]
theorem make_sets (n : Nat) (hn : n <= 1000000) (w : World) : (Instr.makeSlice 130 (.int .i64 (n : Int)) (.int .i64 (n : Int))).run Tryz.prog w = .ok (.slice (some ⟨w.heap.size, 0, none⟩) n n) (w.alloc (.cells (setCells (List.replicate n (0, 0))).toArray 147)) := by
 obtain ⟨i, h1, h2, h3, h4⟩ := info_parts (P := Tryz.prog) (e := 147) (z := .agg #[.int .u64 0, .int .u64 0]) (size := 2) (bytes := 16) (by kernel_rfl); have h := run_makeSlice w 130 147 i (.agg #[.int .u64 0, .int .u64 0]) Tryz.underlying130 h1 h2 .i64 .i64 n n (by omega) (Int.le_refl _) (by rw [h3]; simp; omega) (by rw [h4]; omega) (by omega); have e : madeCells (Value.agg #[.int .u64 0, .int .u64 0]).cells (n * 2) = (setCells (List.replicate n (0, 0))).toArray := by
  apply Array.ext'; have e1 : ∀ k, (setCells (List.replicate k (0, 0))) = List.replicate (k * 2) (.int .u64 0) := by
   intro k
   induction k with
   | zero => rfl
   | succ k ih =>
    rw [List.replicate_succ, show (k + 1) * 2 = k * 2 + 1 + 1 by omega, List.replicate_succ, List.replicate_succ, <- ih]; rfl
  rw [e1]; refine List.eq_replicate_iff.2 ⟨by simp [size_madeCells], fun x hx => ?_⟩; simp only [madeCells, Array.toList_map, List.mem_map] at hx; obtain ⟨i, _, rfl⟩ := hx
  rcases Nat.mod_two_eq_zero_or_one i with h2 | h2
  . show (#[Value.int .u64 0, .int .u64 0] : Array Value)[i % 2]! = _
    rw [h2]; rfl
  show (#[Value.int .u64 0, .int .u64 0] : Array Value)[i % 2]! = _
  rw [h2]; rfl
 rw [h, h3, Int.toNat_natCast, e]
theorem ziD (l : List Set2) (i : Nat) (s : Set2) (h : i < l.length) : setCells (l.set i s) = ((setCells l).set (2 * i) (.int .u64 s.1)).set (2 * i + 1) (.int .u64 s.2) := by
 induction l generalizing i with
 | nil => simp at h
 | cons a l ih =>
  have e : ∀ (a : Set2) (l : List Set2), setCells (a :: l) = .int .u64 a.1 :: .int .u64 a.2 :: setCells l := fun _ _ => rfl; cases i with
  | zero => rfl
  | succ i =>
   rw [List.set_cons_succ, e, e, ih i (by simpa using h), show 2 * (i + 1) = 2 * i + 1 + 1 by omega]; rfl
theorem zb9 {B : Nat} {a b c : World} (h : Below B a b) (k : Below b.heap.size b c) (hB : B <= b.heap.size) : Below B a c :=
 ⟨k.os.trans h.os, k.tape.trans h.tape, k.output.trans h.output, Nat.le_trans h.size k.size, fun x hx => (k.block x (by omega)).trans (h.block x hx)⟩
structure MkSt (w0 : World) (n : Nat) (cuts : List Int) (ms : List Set2) (tb bc cc mb mp : Nat) (rc : List Value) (tag : Nat -> Nat) (sets : List Set2) (rule : List Int) (goes : List (List Int)) (vs vr vg : Value) (gvs : List Value) (wr : World) : Prop where
 pos : 0 < w0.heap.size
 below : Below w0.heap.size w0 wr
 new : ∀ g, tag g ≠ 0 -> w0.heap.size <= g
 ht : wr.heap[tb]? = some (.cells #[.slice (some ⟨bc, 0, none⟩) cuts.length cc, vr, vg, .int .i64 0] 76 (0, 0))
 fCuts : za9 wr bc cuts.toArray rc
 fMs : wr.ownsRow 0 147 2 (.slice (some ⟨mb, 0, none⟩) n n) n (setCells ms)
 fMap : MpAt wr mp sets
 fSets : wr.ownsRow 0 147 2 vs sets.length (setCells sets)
 fRule : wr.ownsRow 0 3 1 vr rule.length (nums rule)
 fGoes : wr.ownsRow 0 39 1 vg goes.length gvs
 rows : ∀ (i : Nat) (row : List Int), goes[i]? = some row -> ∃ g c, gvs[i]? = some (.slice (some ⟨g, 0, none⟩) row.length c) /\ wr.ownsRow 0 3 1 (.slice (some ⟨g, 0, none⟩) row.length c) row.length (nums row) /\ tag g = 6
 t1 : tag tb = 1
 t2 : tag mp = 2
 t3 : ∀ g, vs.ownBlock = some g -> tag g = 3
 t4 : ∀ g, vr.ownBlock = some g -> tag g = 4
 t5 : ∀ g, vg.ownBlock = some g -> tag g = 5
 t6 : tag bc = 6 /\ tag mb = 6
theorem AUpd.of_below {w w' : World} (tag tag' : Nat -> Nat) (c b : Nat) (hb : Below w.heap.size w w') (ht : ∀ x, x < w.heap.size -> tag' x = tag x) : AUpd tag tag' c b w w' := ⟨hb.os, hb.tape, hb.output, hb.size, ht, fun x hx _ _ => hb.block x hx⟩
theorem AUpd.of_grown {w w' : World} (tag : Nat -> Nat) (c b : Nat) (hg : w.grownBy w' (some b)) : AUpd tag tag c b w w' := ⟨hg.os, hg.tape, hg.output, hg.size, fun _ _ => rfl, fun x hx _ hn => hg.block x hx (fun e => hn (by cases e; rfl))⟩
theorem zeS {w w2 : World} {tag : Nat -> Nat} {e : TypeId} {size n m : Nat} {v v' : Value} {xs news : List Value} {c b off : Nat} {cells : Array Value} {t : TypeId} (ob : Obj)
 (hb : w.heap[b]? = some (.cells cells t (0, 0))) (hcb : tag b ≠ c) (hv : ∀ g, v.ownBlock = some g -> g < w.heap.size /\ tag g = c)
 (hrow : w2.ownsRow 0 e size v' (n + m) (xs ++ news)) (hg : (w.alloc ob).grownBy w2 v.ownBlock) (hbl : v'.ownBlock = v.ownBlock \/ v'.ownBlock = some (w.alloc ob).heap.size) :
 AUpd tag (zaR tag (w.heap.size + 1) c) c b w (w2.setCell ⟨b, off, none⟩ v') /\ (w2.setCell ⟨b, off, none⟩ v').heap[b]? = some (.cells (cells.setIfInBounds off v') t (0, 0)) /\
  (w2.setCell ⟨b, off, none⟩ v').ownsRow 0 e size v' (n + m) (xs ++ news) /\ (∀ g, v'.ownBlock = some g -> zaR tag (w.heap.size + 1) c g = c) := by
 have hB := (Below.refl w.heap.size w).alloc (Nat.le_refl _) ob; have hlb := zaa hb; have hs1 : (w.alloc ob).heap.size = w.heap.size + 1 := by simp
 have hsz : w.heap.size + 1 <= w2.heap.size := by rw [<- hs1]; exact hg.size
 have hv2 : ∀ g, v'.ownBlock = some g -> (g < w.heap.size /\ tag g = c) \/ g = w.heap.size + 1 := by
  intro g hgv
  rcases hbl with e | e
  . exact .inl (hv g (by rw [<- e]; exact hgv))
  rw [hgv] at e; cases e; exact .inr hs1
 have hkeep : ∀ x, x < w.heap.size -> tag x ≠ c -> x ≠ b -> (w2.setCell ⟨b, off, none⟩ v').heap[x]? = w.heap[x]? := by
  intro x hx hc hxb; rw [zaf _ _ _ _ hxb]; exact (hg.block x (zLd hx hB.size) (fun e => hc (hv x e.symm).2)).trans (hB.block x hx)
 have hb2 : w2.heap[b]? = some (.cells cells t (0, 0)) := (hg.block b (zLd hlb hB.size) (fun e => hcb (hv b e.symm).2)).trans ((hB.block b hlb).trans hb); refine ⟨⟨hg.os.trans hB.os, hg.tape.trans hB.tape, hg.output.trans hB.output, by simp; omega, fun x hx => zaM (by omega), hkeep⟩, zac w2 b off v' _ _ _ hb2, ?_, ?_⟩
 . refine zaI hrow fun g hgv => zaf _ _ _ _ ?_
   intro e; have e2 : g = b := e
   rcases hv2 g hgv with ⟨h1, h2⟩ | h1
   . rw [e2] at h2; exact hcb h2
   omega
 intro g hgv
 rcases hv2 g hgv with ⟨h1, h2⟩ | h1
 . rw [zaM (by omega)]; exact h2
 rw [h1, zch]
section
variable {w0 w w' : World} {n : Nat} {cuts : List Int} {ms : List Set2} {tb bc cc mb mp : Nat} {rc : List Value} {tag tag' : Nat -> Nat} {sets : List Set2} {rule : List Int} {goes : List (List Int)} {vs vr vg : Value} {gvs : List Value} {c b : Nat}
theorem ze9 (h : Below w0.heap.size w0 w) (hn : ∀ g, tag g ≠ 0 -> w0.heap.size <= g) (hu : AUpd tag tag' c b w w') (hc : c ≠ 0) (hb : w0.heap.size <= b) : Below w0.heap.size w0 w' :=
 ⟨hu.os.trans h.os, hu.tape.trans h.tape, hu.output.trans h.output, Nat.le_trans h.size hu.size, fun x hx => (hu.keep x (zLd hx h.size) (fun e => by have := hn x (by omega); omega) (by omega)).trans (h.block x hx)⟩
theorem zgi {d : Nat} (hu : AUpd tag tag' c b w w') (hd : 6 ≠ c) (hb : tag b ≠ 6) (h : ∀ (i : Nat) (row : List Int), goes[i]? = some row -> ∃ g c, gvs[i]? = some (.slice (some ⟨g, 0, none⟩) row.length c) /\ w.ownsRow 0 3 1 (.slice (some ⟨g, 0, none⟩) row.length c) row.length (nums row) /\ tag g = 6) :
 ∀ (i : Nat) (row : List Int), goes[i]? = some row -> ∃ g c, gvs[i]? = some (.slice (some ⟨g, 0, none⟩) row.length c) /\ w'.ownsRow 0 3 1 (.slice (some ⟨g, 0, none⟩) row.length c) row.length (nums row) /\ tag' g = 6 := fun i row hr => by
 obtain ⟨g, cp, h1, h2, h3⟩ := h i row hr; have r := hu.row h2 (d := 6) (fun g' hg' => by cases hg'; exact h3) hd hb; exact ⟨g, cp, h1, r.1, r.2 g rfl⟩
theorem MkSt.next (h : MkSt w0 n cuts ms tb bc cc mb mp rc tag sets rule goes vs vr vg gvs w) (hu : AUpd tag tag' c b w w') (hn : ∀ g, tag' g ≠ 0 -> w0.heap.size <= g) (hc : 7 <= c) (hb : tag b = 0 \/ 7 <= tag b) (hbl : Below w0.heap.size w0 w') : MkSt w0 n cuts ms tb bc cc mb mp rc tag' sets rule goes vs vr vg gvs w' := by
 have own : ∀ {v : Value} {e : TypeId} {size k : Nat} {xs : List Value} {d : Nat}, w.ownsRow 0 e size v k xs -> (∀ g, v.ownBlock = some g -> tag g = d) -> 0 < d -> d < 7 -> w'.ownsRow 0 e size v k xs /\ ∀ g, v.ownBlock = some g -> tag' g = d :=
  fun hr ht h0 hd => hu.row hr ht (by omega) (by omega)
 have ne : ∀ x d, tag x = d -> 0 < d -> d < 7 -> x ≠ b := fun x d hx h0 h7 e => by rw [e] at hx; omega
 have blk : ∀ {x : Nat} {o : Obj} {d : Nat}, w.heap[x]? = some o -> tag x = d -> 0 < d -> d < 7 -> w'.heap[x]? = some o /\ tag' x = d := fun hx hd h0 h7 => by
  have := hu.blk hx (by omega) (ne _ _ hd h0 h7); exact ⟨this.1, this.2.trans hd⟩
 have b1 := blk h.ht h.t1 (by decide) (by decide); have b6 := blk h.fCuts h.t6.1 (by decide) (by decide); have r6 := own h.fMs (d := 6) (fun g hg => by cases hg; exact h.t6.2) (by decide) (by decide); have r3 := own h.fSets h.t3 (by decide) (by decide); have r4 := own h.fRule h.t4 (by decide) (by decide); have r5 := own h.fGoes h.t5 (by decide) (by decide); obtain ⟨es, clock, hm, _, _⟩ := h.fMap; have b2 := blk hm h.t2 (by decide) (by decide)
 exact ⟨h.pos, hbl, hn, b1.1, b6.1, r6.1, h.fMap.kept (b2.1.trans hm.symm), r3.1, r4.1, r5.1, zgi (d := 0) hu (by omega) (by omega) h.rows, b1.2, b2.2, r3.2, r4.2, r5.2, ⟨b6.2, r6.2 mb rfl⟩⟩
theorem MkSt.tag0 (h : MkSt w0 n cuts ms tb bc cc mb mp rc tag sets rule goes vs vr vg gvs w) : tag 0 = 0 := by
 rcases Nat.eq_zero_or_pos (tag 0) with h0 | h0
 . exact h0
 have := h.new 0 (by omega); have := h.pos; omega
theorem MkSt.later (h : MkSt w0 n cuts ms tb bc cc mb mp rc tag sets rule goes vs vr vg gvs w) (hb : Below w.heap.size w w') : MkSt w0 n cuts ms tb bc cc mb mp rc tag sets rule goes vs vr vg gvs w' :=
 h.next (c := 9) (b := 0) (AUpd.of_below tag tag 9 _ hb (fun _ _ => rfl)) h.new (by omega) (.inl h.tag0) (zb9 h.below hb h.below.size)
theorem MkSt.other (h : MkSt w0 n cuts ms tb bc cc mb mp rc tag sets rule goes vs vr vg gvs w) (g : Nat) (hg : 7 <= tag g) (hw : w.grownBy w' (some g)) : MkSt w0 n cuts ms tb bc cc mb mp rc tag sets rule goes vs vr vg gvs w' :=
 h.next (c := tag g) (b := g) (AUpd.of_grown tag (tag g) g hw) h.new hg (.inr hg) (ze9 h.below h.new (AUpd.of_grown tag (tag g) g hw) (by omega) (h.new g (by omega)))
theorem MkSt.mark (h : MkSt w0 n cuts ms tb bc cc mb mp rc tag sets rule goes vs vr vg gvs w) (hb : Below w.heap.size w w') (g d : Nat) (hg : w.heap.size <= g) (hd : 7 <= d) : MkSt w0 n cuts ms tb bc cc mb mp rc (zaR tag g d) sets rule goes vs vr vg gvs w' :=
 h.next (c := 9) (b := 0) (AUpd.of_below tag _ 9 _ hb (fun x hx => zaM (by omega))) (fun x hx => by
  by_cases e : x = g
  . have := h.below.size; omega
  rw [zaM e] at hx; exact h.new x hx) (by omega) (.inl h.tag0) (zb9 h.below hb h.below.size)
theorem MkSt.put (h : MkSt w0 n cuts ms tb bc cc mb mp rc tag sets rule goes vs vr vg gvs w) (to' : Set2) (hg : w.grownBy w' (some mp)) (hm : MpAt w' mp (sets ++ [to'])) :
 ∀ (w2 : World) (tag2 : Nat -> Nat) (v' : Value), AUpd tag tag2 3 mp w' w2 -> (∀ g, tag2 g ≠ 0 -> w0.heap.size <= g) -> w2.ownsRow 0 147 2 v' (sets.length + 1) (setCells sets ++ [.int .u64 to'.1, .int .u64 to'.2]) -> (∀ g, v'.ownBlock = some g -> tag2 g = 3) -> w2.heap[mp]? = w'.heap[mp]? ->
 MkSt w0 n cuts ms tb bc cc mb mp rc tag2 (sets ++ [to']) rule goes v' vr vg gvs w2 := by
 intro w2 tag2 v' hu hn hrow ht3 hmp; have hu1 : AUpd tag tag 2 mp w w' := AUpd.of_grown tag 2 mp hg; have ne : ∀ x d, tag x = d -> d ≠ 2 -> x ≠ mp := fun x d hx hd e => by rw [e, h.t2] at hx; omega
 have b1 := hu1.blk h.ht (by rw [h.t1]; decide) (ne _ _ h.t1 (by decide)); have b6 := hu1.blk h.fCuts (by rw [h.t6.1]; decide) (ne _ _ h.t6.1 (by decide)); have r6 := hu1.row h.fMs (d := 6) (fun g hg => by cases hg; exact h.t6.2) (by decide) (by rw [h.t2]; decide); have r4 := hu1.row h.fRule h.t4 (by decide) (by rw [h.t2]; decide); have r5 := hu1.row h.fGoes h.t5 (by decide) (by rw [h.t2]; decide); have c1 := hu.blk b1.1 (by rw [h.t1]; decide) (ne _ _ h.t1 (by decide)); have c6 := hu.blk b6.1 (by rw [h.t6.1]; decide) (ne _ _ h.t6.1 (by decide))
 have s6 := hu.row r6.1 r6.2 (by decide) (by rw [h.t2]; decide); have s4 := hu.row r4.1 r4.2 (by decide) (by rw [h.t2]; decide); have s5 := hu.row r5.1 r5.2 (by decide) (by rw [h.t2]; decide); have rows := zgi (d := 0) hu (by decide) (by rw [h.t2]; decide) (zgi (d := 0) hu1 (by decide) (by rw [h.t2]; decide) h.rows); have hmp0 : w0.heap.size <= mp := h.new mp (by rw [h.t2]; decide); have hbl1 := ze9 h.below h.new hu1 (by decide) hmp0; have hbl2 := ze9 hbl1 h.new hu (by decide) hmp0; have hm0 := hm; obtain ⟨es, clock, hm1, _, _⟩ := hm
 have el : (sets ++ [to']).length = sets.length + 1 := by simp
 exact ⟨h.pos, hbl2, hn, c1.1, c6.1, s6.1, hm0.kept hmp, by rw [el, zi2]; exact hrow, s4.1, s5.1, rows, c1.2.trans h.t1, (hu.tags mp (zaa hm1)).trans h.t2, ht3, s4.2, s5.2, ⟨c6.2.trans h.t6.1, s6.2 mb rfl⟩⟩
theorem MkSt.finish (h : MkSt w0 n cuts ms tb bc cc mb mp rc tag sets rule goes vs vr vg gvs w) (g : Nat) (hg : tag g = 7) : MkSt w0 n cuts ms tb bc cc mb mp rc (zaR tag g 6) sets rule goes vs vr vg gvs w := by
 have k : ∀ x d, tag x = d -> d ≠ 7 -> zaR tag g 6 x = d := fun x d hx hd => by rw [zaM (fun e => by rw [e, hg] at hx; omega)]; exact hx
 refine ⟨h.pos, h.below, fun x hx => ?_, h.ht, h.fCuts, h.fMs, h.fMap, h.fSets, h.fRule, h.fGoes, fun i row hr => ?_, k _ _ h.t1 (by decide), k _ _ h.t2 (by decide), fun x hx => k _ _ (h.t3 x hx) (by decide), fun x hx => k _ _ (h.t4 x hx) (by decide), fun x hx => k _ _ (h.t5 x hx) (by decide), ⟨k _ _ h.t6.1 (by decide), k _ _ h.t6.2 (by decide)⟩⟩
 . by_cases e : x = g
   . exact h.new x (by rw [e, hg]; decide)
   rw [zaM e] at hx; exact h.new x hx
 obtain ⟨b, c, h1, h2, h3⟩ := h.rows i row hr
 exact ⟨b, c, h1, h2, k _ _ h3 (by decide)⟩
theorem MkSt.pushGoes (h : MkSt w0 n cuts ms tb bc cc mb mp rc tag sets rule goes vs vr vg gvs w) (row : List Int) (rb cp : Nat) (hr : w.ownsRow 0 3 1 (.slice (some ⟨rb, 0, none⟩) row.length cp) row.length (nums row)) (htr : tag rb = 6) (hu : AUpd tag tag' 5 tb w w') (hn : ∀ g, tag' g ≠ 0 -> w0.heap.size <= g) (v' : Value)
 (hl : w'.heap[tb]? = some (.cells #[.slice (some ⟨bc, 0, none⟩) cuts.length cc, vr, v', .int .i64 0] 76 (0, 0))) (hrow : w'.ownsRow 0 39 1 v' (goes.length + 1) (gvs ++ [.slice (some ⟨rb, 0, none⟩) row.length cp])) (ht : ∀ g, v'.ownBlock = some g -> tag' g = 5) :
 MkSt w0 n cuts ms tb bc cc mb mp rc tag' sets rule (goes ++ [row]) vs vr v' (gvs ++ [.slice (some ⟨rb, 0, none⟩) row.length cp]) w' := by
 have ne : ∀ x d, tag x = d -> d ≠ 1 -> x ≠ tb := fun x d hx hd e => by rw [e, h.t1] at hx; omega
 have b6 := hu.blk h.fCuts (by rw [h.t6.1]; decide) (ne _ _ h.t6.1 (by decide)); have r6 := hu.row h.fMs (d := 6) (fun g hg => by cases hg; exact h.t6.2) (by decide) (by rw [h.t1]; decide); have r3 := hu.row h.fSets h.t3 (by decide) (by rw [h.t1]; decide); have r4 := hu.row h.fRule h.t4 (by decide) (by rw [h.t1]; decide); have rr := hu.row hr (d := 6) (fun g hg => by cases hg; exact htr) (by decide) (by rw [h.t1]; decide); have rows := zgi (d := 0) hu (by decide) (by rw [h.t1]; decide) h.rows; obtain ⟨es, clock, hm, _, _⟩ := h.fMap
 have b2 := hu.blk hm (by rw [h.t2]; decide) (ne _ _ h.t2 (by decide)); have el : (goes ++ [row]).length = goes.length + 1 := by simp
 have gl : gvs.length = goes.length := by have := h.fGoes.1; simpa using this
 refine ⟨h.pos, ze9 h.below h.new hu (by decide) (h.new tb (by rw [h.t1]; decide)), hn, hl, b6.1, r6.1, h.fMap.kept (b2.1.trans hm.symm), r3.1, r4.1, by rw [el]; exact hrow, ?_, (hu.tags tb (zaa h.ht)).trans h.t1, b2.2.trans h.t2, r3.2, r4.2, ht, ⟨b6.2.trans h.t6.1, r6.2 mb rfl⟩⟩; intro i x hx
 rcases Nat.lt_or_ge i goes.length with hi | hi
 . rw [List.getElem?_append_left hi] at hx
   obtain ⟨g, c, h1, h2, h3⟩ := rows i x hx; exact ⟨g, c, by rw [List.getElem?_append_left (by rw [gl]; exact hi)]; exact h1, h2, h3⟩
 rw [List.getElem?_append_right hi] at hx
 have hi2 : i = goes.length := by
  rcases Nat.lt_or_ge (i - goes.length) 1 with h1 | h1
  . omega
  rw [List.getElem?_eq_none (by simpa using h1)] at hx; cases hx
 subst hi2; simp at hx; subst hx; exact ⟨rb, cp, by rw [<- gl]; simp, rr.1, rr.2 rb rfl⟩
theorem MkSt.pushRule (h : MkSt w0 n cuts ms tb bc cc mb mp rc tag sets rule goes vs vr vg gvs w) (x : Int) (hu : AUpd tag tag' 4 tb w w') (hn : ∀ g, tag' g ≠ 0 -> w0.heap.size <= g) (v' : Value)
 (hl : w'.heap[tb]? = some (.cells #[.slice (some ⟨bc, 0, none⟩) cuts.length cc, v', vg, .int .i64 0] 76 (0, 0))) (hrow : w'.ownsRow 0 3 1 v' (rule.length + 1) (nums rule ++ [.int .i64 x])) (ht : ∀ g, v'.ownBlock = some g -> tag' g = 4) :
 MkSt w0 n cuts ms tb bc cc mb mp rc tag' sets (rule ++ [x]) goes vs v' vg gvs w' := by
 have ne : ∀ x d, tag x = d -> d ≠ 1 -> x ≠ tb := fun x d hx hd e => by rw [e, h.t1] at hx; omega
 have b6 := hu.blk h.fCuts (by rw [h.t6.1]; decide) (ne _ _ h.t6.1 (by decide)); have r6 := hu.row h.fMs (d := 6) (fun g hg => by cases hg; exact h.t6.2) (by decide) (by rw [h.t1]; decide); have r3 := hu.row h.fSets h.t3 (by decide) (by rw [h.t1]; decide); have r5 := hu.row h.fGoes h.t5 (by decide) (by rw [h.t1]; decide); have rows := zgi (d := 0) hu (by decide) (by rw [h.t1]; decide) h.rows; obtain ⟨es, clock, hm, _, _⟩ := h.fMap; have b2 := hu.blk hm (by rw [h.t2]; decide) (ne _ _ h.t2 (by decide)); have el : (rule ++ [x]).length = rule.length + 1 := by simp
 exact ⟨h.pos, ze9 h.below h.new hu (by decide) (h.new tb (by rw [h.t1]; decide)), hn, hl, b6.1, r6.1, h.fMap.kept (b2.1.trans hm.symm), r3.1, by rw [el]; unfold nums at *; rw [List.map_append]; exact hrow, r5.1, rows, (hu.tags tb (zaa h.ht)).trans h.t1, b2.2.trans h.t2, r3.2, ht, r5.2, ⟨b6.2.trans h.t6.1, r6.2 mb rfl⟩⟩
theorem MkSt.putApp {gs cs : Nat} (h : MkSt w0 n cuts ms tb bc cc mb mp rc tag sets rule goes (.slice (some ⟨gs, 0, none⟩) sets.length cs) vr vg gvs w) (to' : Set2) {w1 w2 : World} (hg : w.grownBy w1 (some mp)) (hm : MpAt w1 mp (sets ++ [to'])) (ob : Obj) (v' : Value)
 (hrow : w2.ownsRow 0 147 2 v' (sets.length + 1) (setCells sets ++ [.int .u64 to'.1, .int .u64 to'.2])) (hgr : (w1.alloc ob).grownBy w2 (some gs)) (hbl : v'.ownBlock = some gs \/ v'.ownBlock = some (w1.alloc ob).heap.size) :
 MkSt w0 n cuts ms tb bc cc mb mp rc (zaR tag (w1.heap.size + 1) 3) (sets ++ [to']) rule goes v' vr vg gvs w2 /\ ∀ b, b < w.heap.size -> b ≠ mp -> tag b ≠ 3 -> w2.heap[b]? = w.heap[b]? /\ zaR tag (w1.heap.size + 1) 3 b = tag b := by
 have tgs : tag gs = 3 := h.t3 gs rfl; have lgs := (h.fSets.lt gs rfl).2; have hB := (Below.refl w1.heap.size w1).alloc (Nat.le_refl _) ob; have hs1 : (w1.alloc ob).heap.size = w1.heap.size + 1 := by simp
 have hk : ∀ b, b < w1.heap.size -> b ≠ gs -> w2.heap[b]? = w1.heap[b]? := fun b hb hn => (hgr.block b (by omega) (fun e => hn (by cases e; rfl))).trans (hB.block b hb); have hsz := hgr.size; have hmp : mp ≠ gs := fun e => by have := h.t2; rw [e, tgs] at this; cases this
 obtain ⟨es, clock, hm1, _, _⟩ := h.fMap; have lmp := zaa hm1; have hw1 := hg.size; have hu : AUpd tag (zaR tag (w1.heap.size + 1) 3) 3 mp w1 w2 := ⟨hgr.os.trans hB.os, hgr.tape.trans hB.tape, hgr.output.trans hB.output, by omega, fun x hx => zaM (by omega), fun x hx hc _ => hk x hx (fun e => hc (by rw [e]; exact tgs))⟩; refine ⟨h.put to' hg hm w2 _ v' hu (fun g hg' => ?_) hrow (fun g hg' => ?_) (hk mp (by omega) hmp), fun b hb hn ht => ⟨(hk b (by omega) (fun e => ht (by rw [e]; exact tgs))).trans (hg.block b hb (fun e => hn (by cases e; rfl))), zaM (by omega)⟩⟩
 . by_cases e : g = w1.heap.size + 1
   . have := h.below.size; omega
   rw [zaM e] at hg'; exact h.new g hg'
 rcases hbl with e | e
 . rw [hg'] at e; cases e; rw [zaM (by omega)]; exact tgs
 rw [hg', hs1] at e; cases e; exact zch _ _ _
theorem MkSt.newTag (h : MkSt w0 n cuts ms tb bc cc mb mp rc tag sets rule goes vs vr vg gvs w) (c : Nat) : ∀ g, zaR tag (w.heap.size + 1) c g ≠ 0 -> w0.heap.size <= g := fun g hg => by
 by_cases e : g = w.heap.size + 1
 . have := h.below.size; omega
 rw [zaM e] at hg; exact h.new g hg
theorem MkSt.appGoes (h : MkSt w0 n cuts ms tb bc cc mb mp rc tag sets rule goes vs vr vg gvs w) (row : List Int) (rb cp n' : Nat) (hln : row.length = n') (hr : w.ownsRow 0 3 1 (.slice (some ⟨rb, 0, none⟩) n' cp) n' (nums row)) (htr : tag rb = 6) {w2 : World} (ob : Obj) (v' : Value)
 (hrow : w2.ownsRow 0 39 1 v' (goes.length + 1) (gvs ++ [.slice (some ⟨rb, 0, none⟩) n' cp])) (hg : (w.alloc ob).grownBy w2 vg.ownBlock) (hbl : v'.ownBlock = vg.ownBlock \/ v'.ownBlock = some (w.alloc ob).heap.size) :
 MkSt w0 n cuts ms tb bc cc mb mp rc (zaR tag (w.heap.size + 1) 5) sets rule (goes ++ [row]) vs vr v' (gvs ++ [.slice (some ⟨rb, 0, none⟩) n' cp]) (w2.setCell ⟨tb, 2, none⟩ v') := by
 subst hln; obtain ⟨a1, a2, a3, a4⟩ := zeS (tag := tag) (c := 5) (off := 2) ob h.ht (by rw [h.t1]; decide) (fun g hg => ⟨(h.fGoes.lt g hg).2, h.t5 g hg⟩) hrow hg hbl; exact h.pushGoes row rb cp hr htr a1 (h.newTag 5) v' a2 a3 a4
theorem MkSt.appRule (h : MkSt w0 n cuts ms tb bc cc mb mp rc tag sets rule goes vs vr vg gvs w) (x : Int) {w2 : World} (ob : Obj) (v' : Value)
 (hrow : w2.ownsRow 0 3 1 v' (rule.length + 1) (nums rule ++ [.int .i64 x])) (hg : (w.alloc ob).grownBy w2 vr.ownBlock) (hbl : v'.ownBlock = vr.ownBlock \/ v'.ownBlock = some (w.alloc ob).heap.size) :
 MkSt w0 n cuts ms tb bc cc mb mp rc (zaR tag (w.heap.size + 1) 4) sets (rule ++ [x]) goes vs v' vg gvs (w2.setCell ⟨tb, 1, none⟩ v') := by
 obtain ⟨a1, a2, a3, a4⟩ := zeS (tag := tag) (c := 4) (off := 1) ob h.ht (by rw [h.t1]; decide) (fun g hg => ⟨(h.fRule.lt g hg).2, h.t4 g hg⟩) hrow hg hbl; exact h.pushRule x a1 (h.newTag 4) v' a2 a3 a4
theorem MkSt.tabAt {gr cr gg cg : Nat} (h : MkSt w0 n cuts ms tb bc cc mb mp rc tag sets rule goes vs (.slice (some ⟨gr, 0, none⟩) rule.length cr) (.slice (some ⟨gg, 0, none⟩) goes.length cg) gvs w) (hcc : cuts.length <= cc) (hsz : cuts.length < 1000000) (hsz2 : goes.length < 1000000) (bnd : Int) (w2 : World)
 (hk : ∀ b, b ≠ tb -> w2.heap[b]? = w.heap[b]?) (ht2 : w2.heap[tb]? = some (.cells #[.slice (some ⟨bc, 0, none⟩) cuts.length cc, .slice (some ⟨gr, 0, none⟩) rule.length cr, .slice (some ⟨gg, 0, none⟩) goes.length cg, .int .i64 bnd] 76 (0, 0))) :
 zbY w2.heap.size w2 tb ⟨cuts, rule, goes, bnd⟩ bc cc gr cr gg cg := by
 have ne : ∀ x d, tag x = d -> d ≠ 1 -> x ≠ tb := fun x d hx hd e => by rw [e, h.t1] at hx; omega
 have z0 := zab _ _ 0 _ _ _ ht2; have z1 := zab _ _ 1 _ _ _ ht2; have z2 := zab _ _ 2 _ _ _ ht2; have z3 := zab _ _ 3 _ _ _ ht2; simp only [zLa, zLb, zLc] at z0 z1 z2 z3; have kc := (hk bc (ne _ _ h.t6.1 (by decide))).trans h.fCuts; have kr : w2.ownsRow 0 3 1 (.slice (some ⟨gr, 0, none⟩) rule.length cr) rule.length (nums rule) := zaI h.fRule (fun g hg => by cases hg; exact hk gr (ne _ _ (h.t4 gr rfl) (by decide)))
 have kg : w2.ownsRow 0 39 1 (.slice (some ⟨gg, 0, none⟩) goes.length cg) goes.length gvs := zaI h.fGoes (fun g hg => by cases hg; exact hk gg (ne _ _ (h.t5 gg rfl) (by decide))); have hnum : ∀ (l : List Int) (i : Nat) (x : Int), l[i]? = some x -> (nums l)[i]? = some (.int .i64 x) := fun l i x hx => by unfold nums; rw [List.getElem?_map, hx]; rfl
 refine ⟨zaa ht2, z0, z1, z2, z3, ⟨rc, kc⟩, zaa kc, fun i x hx => zax kr i _ (hnum _ _ _ hx), (kr.lt gr rfl).2, fun i row hr => ?_, (kg.lt gg rfl).2, hcc, hsz, hsz2⟩; obtain ⟨g, cp, h1, h2, h3⟩ := h.rows i row hr; have k2 : w2.ownsRow 0 3 1 (.slice (some ⟨g, 0, none⟩) row.length cp) row.length (nums row) := zaI h2 (fun g' hg => by cases hg; exact hk g (ne _ _ h3 (by decide))); exact ⟨g, cp, zax kg i _ h1, (k2.lt g rfl).2, fun j x hx => zax k2 j _ (hnum _ _ _ hx)⟩
end
structure R2St (w0 : World) (n : Nat) (cuts : List Int) (ms : List Set2) (tb bc cc mb mp : Nat) (rc : List Value) (rule : List Int) (goes : List (List Int)) (vr vg : Value) (gvs : List Value) (F : Set2) (fb rb : Nat) (sets2 : List Set2) (row2 : List Int) (k : Nat) (tag : Nat -> Nat) (sets : List Set2) (row : List Int) (vs : Value) (wr : World) : Prop where
 m : MkSt w0 n cuts ms tb bc cc mb mp rc tag sets rule goes vs vr vg gvs wr
 rr : wr.ownsRow 0 3 1 (.slice (some ⟨rb, 0, none⟩) n n) n (nums (row ++ List.replicate (n - k) 0))
 tr : tag rb = 7
 fs : zcN wr fb F
 tf : tag fb = 8
 lk : row.length = k
 rest : zdP F (ms.drop k) sets row = some (sets2, row2)
 ok : ∀ s ∈ sets, s.Ok
 nd : sets.Nodup
 le : sets.length <= 201
section
variable {w0 w w' : World} {n : Nat} {cuts : List Int} {ms : List Set2} {tb bc cc mb mp : Nat} {rc : List Value} {tag : Nat -> Nat} {sets : List Set2} {rule : List Int} {goes : List (List Int)} {vs vr vg : Value} {gvs : List Value} {F : Set2} {fb rb : Nat} {sets2 : List Set2} {row2 : List Int} {k : Nat} {row : List Int}
theorem R2St.later (h : R2St w0 n cuts ms tb bc cc mb mp rc rule goes vr vg gvs F fb rb sets2 row2 k tag sets row vs w) (hb : Below w.heap.size w w') : R2St w0 n cuts ms tb bc cc mb mp rc rule goes vr vg gvs F fb rb sets2 row2 k tag sets row vs w' :=
 ⟨h.m.later hb, za6 h.rr hb, h.tr, (hb.block fb (zaa h.fs)).trans h.fs, h.tf, h.lk, h.rest, h.ok, h.nd, h.le⟩
theorem zkw (r : List Int) (k : Nat) (x : Int) : (r ++ List.replicate (k + 1) (0 : Int)).set r.length x = r ++ [x] ++ List.replicate k 0 := by
 rw [List.set_append_right _ _ (Nat.le_refl _), Nat.sub_self, List.replicate_succ, List.set_cons_zero, List.append_assoc]; rfl
theorem R2St.store (h : R2St w0 n cuts ms tb bc cc mb mp rc rule goes vr vg gvs F fb rb sets2 row2 k tag sets row vs w) (hk : k < n) (x : Int) (hrest : zdP F (ms.drop (k + 1)) sets (row ++ [x]) = some (sets2, row2)) :
 R2St w0 n cuts ms tb bc cc mb mp rc rule goes vr vg gvs F fb rb sets2 row2 (k + 1) tag sets (row ++ [x]) vs (w.setCell ⟨rb, k, none⟩ (.int .i64 x)) := by
 have hg : w.grownBy (w.setCell ⟨rb, k, none⟩ (.int .i64 x)) (some rb) := zag _ rb k _; have hne : fb ≠ rb := fun e => by have := h.tf; rw [e, h.tr] at this; cases this
 have r1 := (h.rr.stored k (.int .i64 x)).1; have e : (nums (row ++ List.replicate (n - k) 0)).set k (.int .i64 x) = nums (row ++ [x] ++ List.replicate (n - (k + 1)) 0) := by
  unfold nums; rw [<- List.map_set, show n - k = (n - (k + 1)) + 1 by omega]; have := zkw row (n - (k + 1)) x; rw [h.lk] at this; rw [this]
 rw [e] at r1; exact ⟨h.m.other rb (by rw [h.tr]; decide) hg, r1, h.tr, (zaf _ _ _ _ hne).trans h.fs, h.tf, by simp [h.lk], hrest, h.ok, h.nd, h.le⟩
theorem R2St.put {gs cs : Nat} (h : R2St w0 n cuts ms tb bc cc mb mp rc rule goes vr vg gvs F fb rb sets2 row2 k tag sets row (.slice (some ⟨gs, 0, none⟩) sets.length cs) w) (to' : Set2) (hok : to'.Ok) (hnew : sets.findIdx? (fun x => decide (x = to')) = none) (h200 : sets.length <= 200) {w1 w2 : World} (hg : w.grownBy w1 (some mp)) (hm : MpAt w1 mp (sets ++ [to'])) (ob : Obj) (v' : Value)
 (hrow : w2.ownsRow 0 147 2 v' (sets.length + 1) (setCells sets ++ [.int .u64 to'.1, .int .u64 to'.2])) (hgr : (w1.alloc ob).grownBy w2 (some gs)) (hbl : v'.ownBlock = some gs \/ v'.ownBlock = some (w1.alloc ob).heap.size)
 (x : Int) (hk : k < n) (hrest : zdP F (ms.drop (k + 1)) (sets ++ [to']) (row ++ [x]) = some (sets2, row2)) :
 R2St w0 n cuts ms tb bc cc mb mp rc rule goes vr vg gvs F fb rb sets2 row2 (k + 1) (zaR tag (w1.heap.size + 1) 3) (sets ++ [to']) (row ++ [x]) v' (w2.setCell ⟨rb, k, none⟩ (.int .i64 x)) := by
 obtain ⟨hM, hkeep⟩ := h.m.putApp to' hg hm ob v' hrow hgr hbl; have hmp := h.m.t2; have lrb := (h.rr.lt rb rfl).2; have lfb := zaa h.fs; obtain ⟨k1, t1⟩ := hkeep rb lrb (fun e => by have := h.tr; rw [e, hmp] at this; cases this) (by rw [h.tr]; decide); obtain ⟨k2, t2⟩ := hkeep fb lfb (fun e => by have := h.tf; rw [e, hmp] at this; cases this) (by rw [h.tf]; decide); have hg2 : w2.grownBy (w2.setCell ⟨rb, k, none⟩ (.int .i64 x)) (some rb) := zag _ rb k _; have hne : fb ≠ rb := fun e => by have := h.tf; rw [e, h.tr] at this; cases this
 have hrr2 : w2.ownsRow 0 3 1 (.slice (some ⟨rb, 0, none⟩) n n) n (nums (row ++ List.replicate (n - k) 0)) := zaI h.rr (fun g hg => by cases hg; exact k1); have r1 := (hrr2.stored k (.int .i64 x)).1; have e : (nums (row ++ List.replicate (n - k) 0)).set k (.int .i64 x) = nums (row ++ [x] ++ List.replicate (n - (k + 1)) 0) := by
  unfold nums; rw [<- List.map_set, show n - k = (n - (k + 1)) + 1 by omega]; have := zkw row (n - (k + 1)) x; rw [h.lk] at this; rw [this]
 rw [e] at r1; rw [List.findIdx?_eq_none_iff] at hnew; refine ⟨hM.other rb (by rw [t1, h.tr]; decide) hg2, r1, t1.trans h.tr, (zaf _ _ _ _ hne).trans (k2.trans h.fs), t2.trans h.tf, by simp [h.lk], hrest, fun s hs => ?_, ?_, by simp; omega⟩
 . rcases List.mem_append.1 hs with hs | hs
   . exact h.ok s hs
   rw [List.mem_singleton] at hs; subst hs; exact hok
 rw [List.nodup_append]
 refine ⟨h.nd, by simp, fun a ha b hb e => ?_⟩; rw [List.mem_singleton] at hb; have := hnew a ha; simp at this; exact this (e.trans hb)
end
end
section
open Go.RowKit Go.Lib
structure M1St (w0 : World) (cls : List (List (Int × Int))) (cuts : List Int) (tb bc cc mb : Nat) (rc : List Value) (i : Nat) (wr : World) : Prop where
 below : Below w0.heap.size w0 wr
 ht : wr.heap[tb]? = some (.cells #[.slice (some ⟨bc, 0, none⟩) cuts.length cc, .slice none 0 0, .slice none 0 0, .int .i64 0] 76 (0, 0))
 fCuts : za9 wr bc cuts.toArray rc
 fMs : wr.ownsRow 0 147 2 (.slice (some ⟨mb, 0, none⟩) cuts.length cuts.length) cuts.length (setCells ((cuts.take i).map (zav cls) ++ List.replicate (cuts.length - i) (0, 0)))
 ne : tb ≠ bc /\ tb ≠ mb /\ bc ≠ mb /\ w0.heap.size <= tb /\ w0.heap.size <= bc /\ w0.heap.size <= mb
theorem M1St.later {w0 wr w' : World} {cls : List (List (Int × Int))} {cuts : List Int} {tb bc cc mb : Nat} {rc : List Value} {i : Nat} (h : M1St w0 cls cuts tb bc cc mb rc i wr) (hb : Below wr.heap.size wr w') : M1St w0 cls cuts tb bc cc mb rc i w' :=
 ⟨zb9 h.below hb h.below.size, (hb.block _ (zaa h.ht)).trans h.ht, (hb.block _ (zaa h.fCuts)).trans h.fCuts, za6 h.fMs hb, h.ne⟩
theorem M1St.put {w0 wr : World} {cls : List (List (Int × Int))} {cuts : List Int} {tb bc cc mb : Nat} {rc : List Value} {i : Nat} (h : M1St w0 cls cuts tb bc cc mb rc i wr) (hi : i < cuts.length) (c : Int) (hc : cuts[i]? = some c) (m : Set2) (hm : m = zav cls c) :
 M1St w0 cls cuts tb bc cc mb rc (i + 1) ((wr.setCell ⟨mb, i * 2, none⟩ (.int .u64 m.1)).setCell ⟨mb, i * 2 + 1, none⟩ (.int .u64 m.2)) := by
 subst hm; have hb : ∀ k, k ≠ mb -> ((wr.setCell ⟨mb, i * 2, none⟩ (.int .u64 (zav cls c).1)).setCell ⟨mb, i * 2 + 1, none⟩ (.int .u64 (zav cls c).2)).heap[k]? = wr.heap[k]? := fun k hk => by
  rw [zaf _ _ _ _ hk, zaf _ _ _ _ hk]
 refine ⟨⟨h.below.os, h.below.tape, h.below.output, by simpa using h.below.size, fun k hk => (hb k (by have := h.ne; omega)).trans (h.below.block k hk)⟩, (hb _ h.ne.2.1).trans h.ht, (hb _ h.ne.2.2.1).trans h.fCuts, ?_, h.ne⟩; have r1 := (h.fMs.stored (i * 2) (.int .u64 (zav cls c).1)).1; have r2 := (r1.stored (i * 2 + 1) (.int .u64 (zav cls c).2)).1; have e : ((cuts.take i).map (zav cls) ++ List.replicate (cuts.length - i) (0, 0)).set i (zav cls c) = (cuts.take (i + 1)).map (zav cls) ++ List.replicate (cuts.length - (i + 1)) (0, 0) := by
  rw [List.take_add_one, hc, List.map_append, show cuts.length - i = (cuts.length - (i + 1)) + 1 by omega, List.replicate_succ, List.set_append_right _ _ (by simp; omega)]; simp [Nat.min_eq_left (Nat.le_of_lt hi)]
 rw [<- e, ziD _ _ _ (by simp; omega), Nat.mul_comm 2 i]; exact r2
structure OSt (w : World) (L : Lay) (n : Nat) (cuts : List Int) (ms : List Set2) (R : List Int) (G : List (List Int)) (tb bc cc mb mp : Nat) (rc : List Value) (f i : Nat) (tag : Nat -> Nat) (sets : List Set2) (rule : List Int) (goes : List (List Int)) (vs vr vg : Value) (gvs : List Value) (wr : World) : Prop where
 m : MkSt w n cuts ms tb bc cc mb mp rc tag sets rule goes vs vr vg gvs wr
 rest : za1 L ms f sets rule goes = some (R, G)
 lr : rule.length = i
 lg : goes.length = i
 ok : ∀ s ∈ sets, s.Ok
 nd : sets.Nodup
 le : sets.length <= 201
def MakeO (T : Tab) (w : World) (e : Ending) (w' : World) : Prop := ∃ tb bc cc br cr bg cg, e = .returned (.tuple #[zaj tb, .bool true]) /\ zbY w'.heap.size w' tb T bc cc br cr bg cg /\ w.heap.size <= tb /\ Below w.heap.size w w'
theorem make_any (L : Lay) (bl : Nat) (w : World) (hl : zeU w bl L) (hpos : 0 < L.cls.length) (hn : L.cls.length <= 65) (hr : ∀ c ∈ L.cls, zbP c) (hW : Wid w) (hG : Glob <= w.heap.size) (hcn : (zba L.cls).length < 1000000)
 (hlr : L.rule.length = L.cls.length) (hlf : L.follow.length = L.cls.length) (hfok : ∀ x ∈ L.follow, x.Ok) (rule : List Int) (goes : List (List Int)) (hmk : za1 L ((zat L.cls).map (zav L.cls)) 202 [(1, 0)] [] [] = some (rule, goes))
 (R f : Nat) (hT : WfT ⟨zat L.cls, rule, goes, 0⟩ R) (best2 : Int) (b2 : BSt) (hbl : zaN ⟨zat L.cls, rule, goes, 0⟩ f goes.length 0 0 ⟨List.replicate goes.length 0, List.replicate goes.length 0, false⟩ = some (best2, b2)) (hfin : ∀ j, b2.far.getD j 0 <= 1000000) (hgl : goes.length < 1000000) (T : Tab) (hTe : T = ⟨zat L.cls, rule, goes, if b2.round then -1 else best2 + 1⟩) :
 Calls Tryz.prog 34 #[zaj bl] w (MakeO T w) := by
 have HTE := hid hTe; clear hTe; have HL := hid hl; have HM := hid (And.intro hmk (And.intro hbl hfin)); have HW := hid hW; have HQ := hid (And.intro hlr (And.intro hlf hfok)); have hcl : (zat L.cls).length < 1000000 := Nat.lt_of_le_of_lt (zgd _) hcn; have HCN := hid hcn; have HRG := hid hr; clear hl hmk hbl hfin hW hlr hlf hfok hcn hr; go_enter Tryz.func34, Tryz.ntmps34; go_upto_region 2 with (go_at_call 60; refine (cuts_any L bl _ HL.out hpos HRG.out HW.out hG HCN.out).mono ?_; rintro e w1 ⟨bc, cc, rc, rfl, hrow1, hnew1, hb1, hcc1⟩)
 have hr2 : za9 (w1.alloc (.cells #[.slice (some ⟨bc, 0, none⟩) (zat L.cls).length cc, .slice none 0 0, .slice none 0 0, .int .i64 0] 76)) bc (zat L.cls).toArray rc := (zau _ _ _ (zaa hrow1)).trans hrow1; have ht2 : (w1.alloc (.cells #[.slice (some ⟨bc, 0, none⟩) (zat L.cls).length cc, .slice none 0 0, .slice none 0 0, .int .i64 0] 76)).heap[w1.heap.size]? = some (.cells #[.slice (some ⟨bc, 0, none⟩) (zat L.cls).length cc, .slice none 0 0, .slice none 0 0, .int .i64 0] 76 (0, 0)) := zaB _ _ _ rfl
 have hb2 : Below w.heap.size w (w1.alloc (.cells #[.slice (some ⟨bc, 0, none⟩) (zat L.cls).length cc, .slice none 0 0, .slice none 0 0, .int .i64 0] 76)) := hb1.alloc hb1.size _; have htb : w.heap.size <= w1.heap.size /\ bc < w1.heap.size := ⟨hb1.size, zaa hrow1⟩; obtain ⟨tb, htbe⟩ : ∃ tb, tb = w1.heap.size := ⟨_, rfl⟩; rw [<- htbe] at ht2 htb ⊢; generalize w1.alloc (.cells #[.slice (some ⟨bc, 0, none⟩) (zat L.cls).length cc, .slice none 0 0, .slice none 0 0, .int .i64 0] 76) = w2 at hr2 ht2 hb2 ⊢; clear htbe hrow1 hb1; have lt2 := zaa ht2
 have hms := make_sets (zat L.cls).length (by omega) w2; have t0 := zab _ _ 0 _ _ _ ht2; simp only [zLa, zLb] at t0; have hst0 : M1St w L.cls (zat L.cls) tb bc cc w2.heap.size rc 0 (w2.alloc (.cells (setCells (List.replicate (zat L.cls).length (0, 0))).toArray 147)) := by
  refine ⟨hb2.alloc hb2.size _, (zau _ _ _ lt2).trans ht2, (zau _ _ _ (zaa hr2)).trans hr2, ?_, by omega, by have := zaa hr2; omega, by have := zaa hr2; omega, htb.1, hnew1, hb2.size⟩; refine ⟨by simp [zdc], .inr ⟨w2.heap.size, _, _, rfl, Nat.zero_le _, zaB _ _ _ rfl, Nat.le_refl _, by unfold maxLen; omega, by simp [zdc], ?_⟩⟩; have e : (setCells (List.replicate (zat L.cls).length (0, 0))).length = (zat L.cls).length * 2 := by simp [zdc]
  show List.take _ (setCells (List.replicate (zat L.cls).length (0, 0))) = _; rw [List.take_of_length_le (by omega)]; simp
 have HST0 := hid hst0; have HB2 := hid (And.intro hr2 (And.intro ht2 hb2)); have HCC := hid hcc1; clear hcc1; obtain ⟨mb, hmb⟩ : ∃ mb, mb = w2.heap.size := ⟨_, rfl⟩; rw [<- hmb] at HST0; clear hst0 hr2 ht2 hb2; go_upto_region 3 with (fail)
 rw [<- hmb]; generalize w2.alloc (.cells (setCells (List.replicate (zat L.cls).length (0, 0))).toArray 147) = w3 at HST0 ⊢; have t03 := zab _ _ 0 _ _ _ HST0.out.ht; simp only [zLa, zLb] at t03; clear t0 hms lt2 hmb; have lt3 := zaa HST0.out.ht; go_wp2_with (fail); clear t03; go_loopw [36] (fun s36 wr => ∃ i : Nat, s36 = .int .i64 i /\ i <= (zat L.cls).length /\ M1St w L.cls (zat L.cls) tb bc cc mb rc i wr) (fun s36 _ => (zat L.cls).length - (RowKit.intOf s36).toNat)
 case atStart => exact ⟨0, rfl, by omega, HST0.out⟩
 case round =>
  obtain ⟨i, rfl, hi, hS⟩ := hrel; have HS := hid hS; clear hS; by_cases hlt : i < (zat L.cls).length
  . have hz : (i : Int) < ((zat L.cls).length : Int) := by omega
    obtain ⟨c, hc⟩ : ∃ c, (zat L.cls)[i]? = some c := ⟨(zat L.cls)[i], zLe hlt⟩; have hcc : wr.cell? ⟨bc, i, none⟩ = some (.int .i32 c) := by
     rw [zab _ _ i _ _ _ HS.out.fCuts]; simp [List.getElem?_append_left, hlt]; exact (List.getElem?_eq_some_iff.1 hc).2
    have lbc := zaa HS.out.fCuts; have hlaid : zeU wr bl L := HL.out.ext HS.out.below.block; have HLR := hid hlaid; have HC := hid hc; have hwrapi : IntKind.i64.wrap ((i : Int) + 1) = (i : Int) + 1 := IntWalk.i64_in _ (by omega); clear hlaid hc; have hcm : ∀ w', Below wr.heap.size wr w' -> (∃ u, w'.cell? ⟨mb, i * 2, none⟩ = some u) /\ (∃ u, w'.cell? ⟨mb, i * 2 + 1, none⟩ = some u) /\ w'.frozen? ⟨mb, i * 2, none⟩ = false /\ w'.frozen? ⟨mb, i * 2 + 1, none⟩ = false /\ mb < w'.heap.size := fun w' hb => by
     have h := (HS.out.later hb).fMs; have hl : (setCells (((zat L.cls).take i).map (zav L.cls) ++ List.replicate ((zat L.cls).length - i) (0, 0))).length = (zat L.cls).length * 2 := by
      rw [zdc]; simp; omega
     exact ⟨⟨_, zax h (i * 2) _ (zLe (by rw [hl]; omega))⟩, ⟨_, zax h (i * 2 + 1) _ (zLe (by rw [hl]; omega))⟩, h.frozenAt _, h.frozenAt _, (h.lt mb rfl).2⟩
    have HCM := hid hcm; clear hcm; go_wp2_with (first | (go_at_call 61; refine (zjs L bl c _ (by exact HLR.out) hpos (by omega)).mono ?_; rintro e w' ⟨rfl, hok, hbm⟩; obtain ⟨⟨u0, m0⟩, ⟨u1, m1⟩, fm0, fm1, lmb⟩ := HCM.out w' hbm; have HBM := hid hbm; clear hok hbm; unfold setV)); go_roundw
    case rel => exact ⟨i + 1, by go_num, by omega, (HS.out.later HBM.out).put hlt c HC.out _ rfl⟩
    case measure => (simp [RowKit.intOf] <;> omega)
  have hz : ¬ (i : Int) < ((zat L.cls).length : Int) := by omega
  have hie : i = (zat L.cls).length := by omega
  subst hie; have hadd : Set2.add (0, 0) 0 = (1, 0) := by decide
  have HADD := hid hadd; have hsa0 : zcN (wr.alloc (.cells #[.int .u64 0, .int .u64 0] 147)) wr.heap.size (0, 0) := zaB _ _ _ rfl; have HSA0 := hid hsa0; clear hadd hsa0; go_upto_region 11 with (first | (go_at_call 62; refine (zfo wr.heap.size 0 (0, 0) _ (by exact HSA0.out) ⟨by decide, by decide⟩ (by decide)).mono ?_; rintro e w4 ⟨rfl, hsa4, hgr4⟩; rw [HADD.out] at hsa4; obtain ⟨d0, d1⟩ := hsa4.cells; have l4 := zaa hsa4; have HS4 := hid (And.intro hsa4 hgr4); clear hsa4 hgr4))
  have hss : w4.heap.size = w4.heap.size := rfl; obtain ⟨w5, hw5⟩ : ∃ w5, w5 = w4.alloc (.cells #[.int .u64 1, .int .u64 0] 147) := ⟨_, rfl⟩; have e0 : (w5.alloc (.map #[] 0)).cell? ⟨wr.heap.size, 0, none⟩ = some (.int .u64 1) := by
   have h1 : w5.cell? ⟨wr.heap.size, 0, none⟩ = w4.cell? ⟨wr.heap.size, 0, none⟩ := by rw [hw5]; exact zai ((Below.refl _ w4).alloc (Nat.le_refl _) _) _ l4
   have h2 : (w5.alloc (.map #[] 0)).cell? ⟨wr.heap.size, 0, none⟩ = w5.cell? ⟨wr.heap.size, 0, none⟩ := zai ((Below.refl _ w5).alloc (Nat.le_refl _) _) _ (by rw [hw5]; simp; omega); rw [h2, h1]; exact d0
  have e1 : (w5.alloc (.map #[] 0)).cell? ⟨wr.heap.size, 1, none⟩ = some (.int .u64 0) := by
   have h1 : w5.cell? ⟨wr.heap.size, 1, none⟩ = w4.cell? ⟨wr.heap.size, 1, none⟩ := by rw [hw5]; exact zai ((Below.refl _ w4).alloc (Nat.le_refl _) _) _ l4
   have h2 : (w5.alloc (.map #[] 0)).cell? ⟨wr.heap.size, 1, none⟩ = w5.cell? ⟨wr.heap.size, 1, none⟩ := zai ((Below.refl _ w5).alloc (Nat.le_refl _) _) _ (by rw [hw5]; simp; omega); rw [h2, h1]; exact d1
  obtain ⟨w7, hmu, hmp7, hgr7⟩ := map_put (map_new w5) (fun s hs => by cases hs) (1, 0) ⟨by decide, by decide⟩ rfl; have hmu' : (Instr.mapUpdate 154 (.map (some w5.heap.size)) (.agg #[.int .u64 1, .int .u64 0]) (.int .i64 0)).run Tryz.prog (w5.alloc (.map #[] 0)) = .ok () w7 := hmu; have hk : ∀ b, b < wr.heap.size -> w7.heap[b]? = wr.heap[b]? := fun b hb => by
   have s4 : wr.heap.size < w4.heap.size := l4; have k4 := (HS4.out.2.block b (by simp; omega) (fun e => by cases e; omega)).trans (zau wr _ b hb); have k5 : w5.heap[b]? = w4.heap[b]? := by rw [hw5]; exact zau _ _ _ (by omega)
   have s5 : w5.heap.size = w4.heap.size + 1 := by rw [hw5]; simp
   have k7 := (hgr7.block b (by simp; omega) (fun e => by cases e; omega)).trans (zau w5 _ b (by omega)); exact k7.trans (k5.trans k4)
  have s5 : w5.heap.size = w4.heap.size + 1 := by rw [hw5]; simp
  have hm0 : MkSt w (zat L.cls).length (zat L.cls) ((zat L.cls).map (zav L.cls)) tb bc cc mb w5.heap.size rc (fun b => if b = tb then 1 else if b = w5.heap.size then 2 else if b = w4.heap.size then 3 else if b = bc then 6 else if b = mb then 6 else 0) [(1, 0)] [] [] (.slice (some ⟨w4.heap.size, 0, none⟩) 1 1) (.slice none 0 0) (.slice none 0 0) [] w7 := by
   have hne := HS.out.ne; have ltb := zaa HS.out.ht; have lbc := zaa HS.out.fCuts; have lmb := (HS.out.fMs.lt mb rfl).2; have s4 : wr.heap.size < w4.heap.size := l4; have hbl := HS.out.below; have hsz7 := hgr7.size
   refine ⟨by unfold Glob at hG; omega, ⟨?_, ?_, ?_, ?_, fun b hb => (hk b (zLd hb hbl.size)).trans (hbl.block b hb)⟩, fun g hg => ?_, (hk tb ltb).trans HS.out.ht, (hk bc lbc).trans HS.out.fCuts, ?_, hmp7, ?_, zdj _ _ _, zdj _ _ _, (fun i row hr => by simp at hr), (by rw [if_pos rfl]), ?_, ?_, (fun g hg => by cases hg), (fun g hg => by cases hg), ⟨?_, ?_⟩⟩
   . exact hgr7.os.trans ((by rw [hw5]; rfl : w5.os = w4.os).trans (HS4.out.2.os.trans hbl.os))
   . exact hgr7.tape.trans ((by rw [hw5]; rfl : w5.tape = w4.tape).trans (HS4.out.2.tape.trans hbl.tape))
   . exact hgr7.output.trans ((by rw [hw5]; rfl : w5.output = w4.output).trans (HS4.out.2.output.trans hbl.output))
   . have := hbl.size; simp at hsz7; omega
   . have := hbl.size
     split at hg
     . omega
     split at hg
     . omega
     split at hg
     . omega
     split at hg
     . omega
     split at hg
     . omega
     exact absurd rfl hg
   . refine zaI (by simpa using HS.out.fMs) fun g hg => by cases hg; exact hk mb lmb
   . refine ⟨rfl, .inr ⟨w4.heap.size, 1, #[.int .u64 1, .int .u64 0], rfl, Nat.zero_le _, ?_, Nat.le_refl _, by decide, rfl, rfl⟩⟩
     refine (hgr7.block w4.heap.size (by simp; omega) (fun e => by injection e with e; omega)).trans ((zau w5 _ _ (by omega)).trans ?_); rw [hw5]; exact zaB _ _ _ rfl
   . rw [if_neg (by omega), if_pos rfl]
   . intro g hg
     have hg' : g = w4.heap.size := by cases hg; rfl
     subst hg'; show (if w4.heap.size = tb then 1 else if w4.heap.size = w5.heap.size then 2 else if w4.heap.size = w4.heap.size then 3 else if w4.heap.size = bc then 6 else if w4.heap.size = mb then 6 else 0) = 3; rw [if_neg (by omega), if_neg (by omega), if_pos rfl]
   . rw [if_neg (by omega), if_neg (by omega), if_neg (by omega), if_pos rfl]
   rw [if_neg (by omega), if_neg (by omega), if_neg (by omega), if_neg (by omega), if_pos rfl]
  have HM0 := hid hm0; have hmm : (Instr.makeMap 154 none).run Tryz.prog w5 = .ok (.map (some w5.heap.size)) (w5.alloc (.map #[] 0)) := by kernel_rfl
  have l5 : wr.heap.size < w5.heap.size := by omega
  rw [<- hw5]; have HS5 := hid s5; clear hm0 hmu hmp7 hgr7 hk hw5 d0 d1 s5; obtain ⟨vc, vf, vr0, cvs, hl1, hl2, hl3, hl4, hl5⟩ := HL.out; rw [HQ.out.1] at hl4; rw [HQ.out.2.1] at hl5; obtain ⟨gc, capc, rfl⟩ : ∃ g cap, vc = .slice (some ⟨g, 0, none⟩) L.cls.length cap := by
   rcases zaG hl2 with ⟨_, h0⟩ | ⟨g, cap, e, _⟩
   . omega
   exact ⟨g, cap, e⟩
  obtain ⟨gf, capf, rfl⟩ : ∃ g cap, vf = .slice (some ⟨g, 0, none⟩) L.cls.length cap := by
   rcases zaG hl5 with ⟨_, h0⟩ | ⟨g, cap, e, _⟩
   . omega
   exact ⟨g, cap, e⟩
  obtain ⟨gr, capr, rfl⟩ : ∃ g cap, vr0 = .slice (some ⟨g, 0, none⟩) L.cls.length cap := by
   rcases zaG hl4 with ⟨_, h0⟩ | ⟨g, cap, e, _⟩
   . omega
   exact ⟨g, cap, e⟩
  have HLL := hid (And.intro hl1 (And.intro hl4 hl5)); clear hl1 hl2 hl3 hl4 hl5; go_wp2_with (fail); go_loopg [9, 11] 202 (fun gh s9 s11 wr => ∃ (i gs cs f : Nat) (tag : Nat -> Nat) (sets : List Set2) (rule' : List Int) (goes' : List (List Int)) (vr vg : Value) (gvs : List Value), s9 = .slice (some ⟨gs, 0, none⟩) sets.length cs /\ s11 = .int .i64 i /\ f = gh /\ OSt w L (zat L.cls).length (zat L.cls) ((zat L.cls).map (zav L.cls)) rule goes tb bc cc mb w5.heap.size rc f i tag sets rule' goes' s9 vr vg gvs wr)
  case atStart =>
   exact ⟨0, _, _, _, _, _, _, _, _, _, _, rfl, rfl, rfl, HM0.out, HM.out.1, rfl, rfl, fun s hs => by rw [List.mem_singleton] at hs; subst hs; exact ⟨by decide, by decide⟩, List.nodup_cons.2 ⟨by simp, List.nodup_nil⟩, by decide⟩
  case round =>
   obtain ⟨i, gs, cs, f9, tag, sets, rule', goes', vr, vg, gvs, rfl, rfl, hf9, hO⟩ := hrel; have HF9 := hid hf9; clear hf9; have HO := hid hO; clear hO; by_cases hlt : i < sets.length
   . have hz : (i : Int) < (sets.length : Int) := by omega
     obtain ⟨f', rfl⟩ : ∃ f', f9 = f' + 1 := by
      cases f9 with
      | zero => have := HO.out.rest; rw [za1, if_pos (by rw [HO.out.lr]; exact hlt)] at this; cases this
      | succ k => exact ⟨k, rfl⟩
     have hrest := HO.out.rest; rw [za1, if_pos (by rw [HO.out.lr]; exact hlt), HO.out.lr] at hrest; obtain ⟨s, hs⟩ : ∃ s, s = sets.getD i (0, 0) := ⟨_, rfl⟩; rw [<- hs] at hrest; have hsi : sets[i]? = some s := by rw [hs, zLf, zLe hlt]; rfl
     have hsok : s.Ok := HO.out.ok s (List.mem_of_getElem? hsi); have HREST := hid hrest; have HSI := hid (And.intro hsi hsok); have hle := HO.out.le; clear hrest hs hsi hsok; go_upto_region 17 with (fail)
     have hMA := HO.out.m.mark ((Below.refl _ wr).alloc (Nat.le_refl _) (.cells #[.int .u64 0, .int .u64 0] 147)) wr.heap.size 8 (Nat.le_refl _) (by decide); have hSA : zcN (wr.alloc (.cells #[.int .u64 0, .int .u64 0] 147)) wr.heap.size (0, 0) := zaB _ _ _ rfl; generalize wr.alloc (.cells #[.int .u64 0, .int .u64 0] 147) = wA at hMA hSA ⊢; obtain ⟨fb, hfb⟩ : ∃ fb, fb = wr.heap.size := ⟨_, rfl⟩; rw [<- hfb] at hMA hSA ⊢; have htg : zaR tag fb 8 fb = 8 := zch _ _ _; generalize zaR tag fb 8 = tagA at hMA htg; have HTG := hid htg; have HMA := hid (And.intro hMA hSA)
     have lbl0 := (hMA.below.block bl (zaa HLL.out.1)).trans HLL.out.1; have q0 := zab _ _ 0 _ _ _ lbl0; simp only [zLa, zLb] at q0; have lq0 := zaa lbl0; clear hMA hSA hfb htg lbl0; go_wp2_with (fail); clear q0 lq0
     go_loopw [13, 65] (fun s13 s65 wr2 => ∃ (j : Nat), s65 = .int .i64 j /\ j <= L.cls.length /\ s13 = .int .i64 (zaw L s j).2 /\ MkSt w (zat L.cls).length (zat L.cls) ((zat L.cls).map (zav L.cls)) tb bc cc mb w5.heap.size rc tagA sets rule' goes' (.slice (some ⟨gs, 0, none⟩) sets.length cs) vr vg gvs wr2 /\ zcN wr2 fb (zaw L s j).1 /\ (zaw L s j).1.Ok /\ -1 <= (zaw L s j).2) (fun _ s65 _ => L.cls.length - (RowKit.intOf s65).toNat)
     case atStart => exact ⟨0, rfl, by omega, rfl, HMA.out.1, HMA.out.2, show Set2.Ok (0, 0) from ⟨by decide, by decide⟩, show (-1 : Int) <= -1 by decide⟩
     case round =>
      obtain ⟨j, rfl, hj, rfl, hm1, hf1, hok1, hr1⟩ := hrel; have HI1 := hid (And.intro hm1 hf1); have HOK1 := hid hok1; by_cases hjl : j < L.cls.length
      . have hzj : (j : Int) < (L.cls.length : Int) := by omega
        have hwrapj : IntKind.i64.wrap ((j : Int) + 1) = (j : Int) + 1 := IntWalk.i64_in _ (by omega); have hg1 := zdT sets i s HSI.out.1; rw [Nat.mul_comm 2 i] at hg1; have x0 := zax hm1.fSets _ _ hg1.1; have x1 := zax hm1.fSets _ _ hg1.2; have lgs := (hm1.fSets.lt gs rfl).2; have hnext : zaw L s (j + 1) = if s.has j then ((zaw L s j).1.or (L.follow.getD j (0, 0)), if 0 <= L.rule.getD j (-1) /\ ((zaw L s j).2 < 0 \/ L.rule.getD j (-1) < (zaw L s j).2) then L.rule.getD j (-1) else (zaw L s j).2) else zaw L s j := rfl
        have HNX := hid hnext; clear hnext hg1 hm1 hf1 hok1; cases hh : s.has j with
        | false =>
         have HH := hid hh; clear hh; go_wp2_with (first | (go_at_call 63; refine (zhC j s _ (by exact HSI.out.2) (by omega)).mono ?_; rintro e w' ⟨rfl, hbh⟩; rw [HH.out]; have HBH := hid hbh; clear hbh)); go_roundw
         case rel =>
          have hn := HNX.out; rw [HH.out] at hn; exact ⟨j + 1, by go_num, by omega, by rw [hn]; rfl, HI1.out.1.later HBH.out, by rw [hn]; exact (HBH.out.block fb (zaa HI1.out.2)).trans HI1.out.2, by rw [hn]; exact HOK1.out, by rw [hn]; exact hr1⟩
         case measure => (simp [RowKit.intOf] <;> omega)
        | true =>
         have HH := hid hh; clear hh; go_upto_region 21 with (first | (go_at_call 63; refine (zhC j s _ (by exact HSI.out.2) (by omega)).mono ?_; rintro e w' ⟨rfl, hbh⟩; rw [HH.out]; have HBH := hid hbh; clear hbh))
         obtain ⟨F, hF⟩ : ∃ F, F = (zaw L s j).1 := ⟨_, rfl⟩; obtain ⟨r, hr⟩ : ∃ r, r = (zaw L s j).2 := ⟨_, rfl⟩; obtain ⟨x, hx⟩ : ∃ x, x = L.follow.getD j (0, 0) := ⟨_, rfl⟩; obtain ⟨rj, hrj⟩ : ∃ y, y = L.rule.getD j (-1) := ⟨_, rfl⟩; have hn := HNX.out; rw [HH.out, if_pos rfl, <- hF, <- hr, <- hx, <- hrj] at hn; have HN := hid hn; have hxs : L.follow[j]? = some x := by rw [hx, zLf, zLe (by rw [HQ.out.2.1]; exact hjl)]; rfl
         have hrs : L.rule[j]? = some rj := by rw [hrj, zLf, zLe (by rw [HQ.out.1]; exact hjl)]; rfl
         have HFX := hid (And.intro (by rw [hF]; exact HOK1.out : F.Ok) (HQ.out.2.2 x (List.mem_of_getElem? hxs))); have hfbF : zcN w' fb F := by rw [hF]; exact (HBH.out.block fb (zaa HI1.out.2)).trans HI1.out.2
         have hm2 := HI1.out.1.later HBH.out; rw [<- hr] at hr1 ⊢; have hbl2 := (hm2.below.block bl (zaa HLL.out.1)).trans HLL.out.1; have hrf2 := zaI HLL.out.2.2 (fun g hg => hm2.below.block g (HLL.out.2.2.lt g hg).2); have hrr2 := zaI HLL.out.2.1 (fun g hg => hm2.below.block g (HLL.out.2.1.lt g hg).2); have hg2 := zdT L.follow j x hxs; rw [Nat.mul_comm 2 j] at hg2; have yf0 := zax hrf2 _ _ hg2.1; have yf1 := zax hrf2 _ _ hg2.2; have yl1 := zab _ _ 1 _ _ _ hbl2; have yl2 := zab _ _ 2 _ _ _ hbl2
         simp only [zLa, zLc, zLb] at yl1 yl2; obtain ⟨y0, y1⟩ := hfbF.cells; have lfb := zaa hfbF; have lbl := zaa hbl2; have lgf := (hrf2.lt gf rfl).2; have lgr := (hrr2.lt gr rfl).2; have yr := zax hrr2 j (.int .i64 rj) (by rw [List.getElem?_map, hrs]; rfl); have HM2 := hid (And.intro hm2 hfbF); have HRJ := hid hrs; clear hF hr hx hrj hn hxs hrs hm2 hfbF hbl2 hrf2 hrr2 hg2; refine wp_region_noPanic ?_
         refine zaA (fun w' => w'.cell? ⟨fb, 0, none⟩ = some (.int .u64 F.1) /\ w'.cell? ⟨fb, 1, none⟩ = some (.int .u64 F.2) /\ w'.cell? ⟨bl, 1, none⟩ = some (.slice (some ⟨gf, 0, none⟩) L.cls.length capf) /\ w'.cell? ⟨gf, j * 2, none⟩ = some (.int .u64 x.1) /\ w'.cell? ⟨gf, j * 2 + 1, none⟩ = some (.int .u64 x.2)) 9 (by kernel_rfl) ⟨y0, y1, yl1, yf0, yf1⟩ (fun hS0 => ?_); refine zak 0 hS0 ?_; (try simp only [Act.put, lA, lB, lC]); refine zak 1 hS0 ?_; (try simp only [Act.put, lA, lB, lC]); refine zak 2 hS0 ?_; (try simp only [Act.put, lA, lB, lC]); refine zak 3 hS0 ?_; (try simp only [Act.put, lA, lB, lC]); refine zak 4 hS0 ?_; (try simp only [Act.put, lA, lB, lC]); refine zak 5 hS0 ?_; (try simp only [Act.put, lA, lB, lC]); refine zak 6 hS0 ?_; (try simp only [Act.put, lA, lB, lC]); refine zak 7 hS0 ?_; (try simp only [Act.put, lA, lB, lC]); refine zaq 8 (by rfl) (by kernel_rfl) (fun K hK => ?_); go_simp; go_at_call 59; refine (zi7 F x _ HFX.out.1 HFX.out.2).mono ?_; rintro e w12 ⟨rfl, hb12⟩; simp only [setV]; have hS1 := (And.intro ((zai hb12 ⟨fb, 0, none⟩ lfb).trans y0) (And.intro ((zai hb12 ⟨fb, 1, none⟩ lfb).trans y1) (And.intro ((zai hb12 ⟨bl, 1, none⟩ lbl).trans yl1) (And.intro ((zai hb12 ⟨gf, j * 2, none⟩ lgf).trans yf0) ((zai hb12 ⟨gf, j * 2 + 1, none⟩ lgf).trans yf1))))); refine hK.out _ _ (fun _ => hS1) ?_; clear hK K hS0
         (try simp only [Act.put, lA, lB, lC]); obtain ⟨z0, z1, _, _, _⟩ := hS1; have hfb12 : zcN w12 fb F := (hb12.block fb lfb).trans HM2.out.2; have zf0 := zae _ _ 0 _ _ hfb12; have zf1 := zae _ _ 1 _ _ hfb12; have zl := zaa hfb12; refine zaq 9 (by rfl) (by kernel_rfl) (fun K hK => ?_); go_simp; refine hK.out _ _ (fun h => absurd rfl h) ?_; clear hK K; (try simp only [Act.put, lA, lB, lC]); refine zaP (by kernel_rfl) ?_; refine NoPanic.normal ?_
         have hmX := (HM2.out.1.later (⟨hb12.os, hb12.tape, hb12.output, hb12.size, hb12.block⟩ : Below w'.heap.size w' w12)).other (w' := (w12.setCell ⟨fb, 0, none⟩ (.int .u64 ((F.or x).1 : Nat))).setCell ⟨fb, 1, none⟩ (.int .u64 ((F.or x).2 : Nat))) fb (by rw [HTG.out]; decide) (zbD _ _ _ _ _ _); have hsX : zcN ((w12.setCell ⟨fb, 0, none⟩ (.int .u64 ((F.or x).1 : Nat))).setCell ⟨fb, 1, none⟩ (.int .u64 ((F.or x).2 : Nat))) fb (F.or x) := zac _ _ _ _ _ _ _ (zac _ _ _ _ _ _ _ hfb12)
         generalize (w12.setCell ⟨fb, 0, none⟩ (.int .u64 ((F.or x).1 : Nat))).setCell ⟨fb, 1, none⟩ (.int .u64 ((F.or x).2 : Nat)) = wX at hmX hsX ⊢; have hblX := (hmX.below.block bl (zaa HLL.out.1)).trans HLL.out.1; have hrrX := zaI HLL.out.2.1 (fun g hg => hmX.below.block g (HLL.out.2.1.lt g hg).2); have xl2 := zab _ _ 2 _ _ _ hblX; simp only [zLa, zLc, zLb] at xl2; have xlbl := zaa hblX; have xlgr := (hrrX.lt gr rfl).2; have hrs := HRJ.out
         have xr := zax hrrX j (.int .i64 rj) (by rw [List.getElem?_map, hrs]; rfl); have HMX := hid (And.intro hmX hsX); have hokX := or_ok HFX.out.1 HFX.out.2; have HOX := hid hokX; clear hmX hsX hblX hrrX hrs z0 z1 zf0 zf1 zl hfb12 hb12 y0 y1 lfb lbl lgf lgr yr yf0 yf1 yl1 yl2 hokX; by_cases h1 : 0 <= rj
         . by_cases h2 : r < 0
           . go_wp2_with (fail)
             go_roundw
             case rel =>
              have hn := HN.out; rw [if_pos ⟨h1, .inl h2⟩] at hn; exact ⟨j + 1, by go_num, by omega, by rw [hn], HMX.out.1, by rw [hn]; exact HMX.out.2, by rw [hn]; exact HOX.out, by rw [hn]; omega⟩
             case measure => (simp [RowKit.intOf] <;> omega)
           by_cases h3 : rj < r
           . go_wp2_with (fail)
             go_roundw
             case rel =>
              have hn := HN.out; rw [if_pos ⟨h1, .inr h3⟩] at hn; exact ⟨j + 1, by go_num, by omega, by rw [hn], HMX.out.1, by rw [hn]; exact HMX.out.2, by rw [hn]; exact HOX.out, by rw [hn]; omega⟩
             case measure => (simp [RowKit.intOf] <;> omega)
           go_wp2_with (fail)
           go_roundw
           case rel =>
            have hn := HN.out; rw [if_neg (fun e => by omega)] at hn; exact ⟨j + 1, by go_num, by omega, by rw [hn], HMX.out.1, by rw [hn]; exact HMX.out.2, by rw [hn]; exact HOX.out, by rw [hn]; omega⟩
           case measure => (simp [RowKit.intOf] <;> omega)
         go_wp2_with (fail)
         go_roundw
         case rel =>
          have hn := HN.out; rw [if_neg (fun e => by omega)] at hn; exact ⟨j + 1, by go_num, by omega, by rw [hn], HMX.out.1, by rw [hn]; exact HMX.out.2, by rw [hn]; exact HOX.out, by rw [hn]; omega⟩
         case measure => (simp [RowKit.intOf] <;> omega)
      have hzj : ¬ (j : Int) < (L.cls.length : Int) := by omega
      have hje : j = L.cls.length := by omega
      subst hje; clear hj hm1 hf1 hok1; obtain ⟨F, hF⟩ : ∃ F, F = (zaw L s L.cls.length).1 := ⟨_, rfl⟩; obtain ⟨r, hr⟩ : ∃ r, r = (zaw L s L.cls.length).2 := ⟨_, rfl⟩; rw [<- hr] at hr1 ⊢; have hrest := HREST.out; rw [<- hF, <- hr] at hrest; obtain ⟨sets2, row2, hgo, hrest2⟩ : ∃ sets2 row2, zdP F ((zat L.cls).map (zav L.cls)) sets [] = some (sets2, row2) /\ za1 L ((zat L.cls).map (zav L.cls)) f' sets2 (rule' ++ [r]) (goes' ++ [row2]) = some (rule, goes) := by
       split at hrest
       . cases hrest
       rename_i a b e
       exact ⟨a, b, e, hrest⟩
      have HR2 := hid hrest2; have HFO := hid (by rw [hF]; exact HOK1.out : F.Ok); have hfF : zcN wr fb F := by rw [hF]; exact HI1.out.2
      have HI2 := hid (And.intro HI1.out.1 hfF); have HGO := hid hgo; clear hF hr hrest hrest2 hfF hgo; have t0 := zab _ _ 0 _ _ _ HI2.out.1.ht; simp only [zLa, zLb] at t0; have ltb2 := zaa HI2.out.1.ht; have hmi := zjc (zat L.cls).length (by omega) wr; go_upto_region 27 with (fail)
      have hR0 : R2St w (zat L.cls).length (zat L.cls) ((zat L.cls).map (zav L.cls)) tb bc cc mb w5.heap.size rc rule' goes' vr vg gvs F fb wr.heap.size sets2 row2 0 (zaR tagA wr.heap.size 7) sets [] (.slice (some ⟨gs, 0, none⟩) sets.length cs) (wr.alloc (.cells (nums (List.replicate (zat L.cls).length 0)).toArray 3)) := by
       have lfb := zaa HI2.out.2; exact ⟨HI2.out.1.mark ((Below.refl _ wr).alloc (Nat.le_refl _) _) _ 7 (Nat.le_refl _) (by decide), by simpa using (zgh _ wr.heap.size (zat L.cls).length (by omega) (zaB _ _ _ rfl)), zch _ _ _, (zau _ _ _ lfb).trans HI2.out.2, (zaM (by omega)).trans HTG.out, rfl, HGO.out, HO.out.ok, HO.out.nd, hle⟩
      generalize wr.alloc (.cells (nums (List.replicate (zat L.cls).length 0)).toArray 3) = wB at hR0 ⊢; obtain ⟨rb, hrb⟩ : ∃ rb, rb = wr.heap.size := ⟨_, rfl⟩; rw [<- hrb] at hR0 ⊢; generalize zaR tagA rb 7 = tagB at hR0; have HR0 := hid hR0; have t0 := zab _ _ 0 _ _ _ hR0.m.ht; simp only [zLa, zLb] at t0; have ltb2 := zaa hR0.m.ht; clear hR0 hrb hmi; go_wp2_with (fail); clear t0 ltb2
      go_loopw [9, 115] (fun s9 s115 wr3 => ∃ (k gs' cs' : Nat) (tagk : Nat -> Nat) (setsk : List Set2) (rowk : List Int), s9 = .slice (some ⟨gs', 0, none⟩) setsk.length cs' /\ s115 = .int .i64 k /\ k <= (zat L.cls).length /\ R2St w (zat L.cls).length (zat L.cls) ((zat L.cls).map (zav L.cls)) tb bc cc mb w5.heap.size rc rule' goes' vr vg gvs F fb rb sets2 row2 k tagk setsk rowk s9 wr3) (fun _ s115 _ => (zat L.cls).length - (RowKit.intOf s115).toNat)
      case atStart => exact ⟨0, _, _, _, _, _, rfl, rfl, by omega, HR0.out⟩
      case round =>
       obtain ⟨k, gs', cs', tagk, setsk, rowk, rfl, rfl, hk, hRk⟩ := hrel; have HRK := hid hRk; by_cases hkl : k < (zat L.cls).length
       . have hzk : (k : Int) < ((zat L.cls).length : Int) := by omega
         have hwrapk : IntKind.i64.wrap ((k : Int) + 1) = (k : Int) + 1 := IntWalk.i64_in _ (by omega); obtain ⟨m, hm⟩ : ∃ m, ((zat L.cls).map (zav L.cls))[k]? = some m := ⟨_, zLe (by simpa using hkl)⟩; have hmok : m.Ok := by
          rw [List.getElem?_map] at hm; cases hq : (zat L.cls)[k]? with
          | none => rw [hq] at hm; cases hm
          | some c => rw [hq] at hm; cases hm; exact zeq c L.cls 0 (0, 0) ⟨by decide, by decide⟩ (by omega)
         have hgk := zdT _ k m hm; rw [Nat.mul_comm 2 k] at hgk; have m0 := zax hRk.m.fMs _ _ hgk.1; have m1 := zax hRk.m.fMs _ _ hgk.2; obtain ⟨y0, y1⟩ := hRk.fs.cells; have lfb := zaa hRk.fs; have lmb := (hRk.m.fMs.lt mb rfl).2; have hb0 := bits_and_u64_nat F.1 m.1 HFO.out.1 hmok.1; have hb1 := bits_and_u64_nat F.2 m.2 HFO.out.2 hmok.2; have hdrop : ((zat L.cls).map (zav L.cls)).drop k = m :: ((zat L.cls).map (zav L.cls)).drop (k + 1) := by
          obtain ⟨h1, h2⟩ := List.getElem?_eq_some_iff.1 hm; rw [List.drop_eq_getElem_cons h1, h2]
         have hrest := hRk.rest; rw [hdrop, zdP] at hrest; obtain ⟨to', hto⟩ : ∃ t, t = F.and m := ⟨_, rfl⟩; rw [<- hto] at hrest; have hto1 : (F.1 &&& m.1) = to'.1 := by rw [hto]; rfl
         have hto2 : (F.2 &&& m.2) = to'.2 := by rw [hto]; rfl
         rw [hto1] at hb0; rw [hto2] at hb1; have htok : to'.Ok := by
          rw [hto]; exact ⟨Nat.lt_of_le_of_lt Nat.and_le_left HFO.out.1, Nat.lt_of_le_of_lt Nat.and_le_left HFO.out.2⟩
         have HRS := hid hrest; have HTOK := hid htok; have hSO : ∀ w', Below wr.heap.size wr w' -> Below wr.heap.size wr w' /\ w'.cell? ⟨fb, 0, none⟩ = some (.int .u64 F.1) /\ w'.cell? ⟨fb, 1, none⟩ = some (.int .u64 F.2) /\ w'.cell? ⟨mb, k * 2, none⟩ = some (.int .u64 m.1) /\ w'.cell? ⟨mb, k * 2 + 1, none⟩ = some (.int .u64 m.2) := fun w' hb =>
          ⟨hb, (zai hb ⟨fb, 0, none⟩ lfb).trans y0, (zai hb ⟨fb, 1, none⟩ lfb).trans y1, (zai hb ⟨mb, k * 2, none⟩ lmb).trans m0, (zai hb ⟨mb, k * 2 + 1, none⟩ lmb).trans m1⟩
         have HSO := hid hSO; have hpan : (match (wr.alloc (.cells #[.int .u64 0, .int .u64 0] 147)) with | x => True) := trivial; clear hm hmok hgk m0 m1 y0 y1 lfb lmb hdrop hrest hto hto1 hto2 htok hSO hRk hpan; go_upto_region 30 with (fail)
         go_region_held3 (fun w' => Below wr.heap.size wr w' /\ w'.cell? ⟨fb, 0, none⟩ = some (.int .u64 F.1) /\ w'.cell? ⟨fb, 1, none⟩ = some (.int .u64 F.2) /\ w'.cell? ⟨mb, k * 2, none⟩ = some (.int .u64 m.1) /\ w'.cell? ⟨mb, k * 2 + 1, none⟩ = some (.int .u64 m.2)) (first | exact HSO.out _ (Below.refl _ _).drew | exact HSO.out _ ((Below.refl _ _).drew.alloc (by simp) _) | exact HSO.out _ (((Below.refl _ _).drew.alloc (by simp) _).setCell (by simp) _) | exact HSO.out _ ((((Below.refl _ _).drew.alloc (by simp) _).setCell (by simp) _).setCell (by simp) _)) (fail)
         have hR3 := HRK.out.later (w' := (wr.alloc (.cells #[.int .u64 to'.1, .int .u64 to'.2] 147)).drew) (((Below.refl _ wr).alloc (Nat.le_refl _) _).drew); have hTA : zcN (wr.alloc (.cells #[.int .u64 to'.1, .int .u64 to'.2] 147)).drew wr.heap.size to' := zaB _ _ _ rfl; generalize (wr.alloc (.cells #[.int .u64 to'.1, .int .u64 to'.2] 147)).drew = wT at hR3 hTA ⊢; obtain ⟨ta, hta⟩ : ∃ ta, ta = wr.heap.size := ⟨_, rfl⟩; rw [<- hta] at hTA ⊢; have HR3 := hid (And.intro hR3 hTA); obtain ⟨d0, d1⟩ := hTA.cells; have lta := zaa hTA
         have hlk := map_look hR3.m.fMap hR3.ok hR3.nd to' HTOK.out; unfold setV at hlk; have hcr : ∀ w', Below wT.heap.size wT w' -> (∃ u, w'.cell? ⟨rb, k, none⟩ = some u) /\ w'.frozen? ⟨rb, k, none⟩ = false /\ rb < w'.heap.size := fun w' hb => by
          have h := (HR3.out.1.later hb).rr; have hl : (nums (rowk ++ List.replicate ((zat L.cls).length - k) 0)).length = (zat L.cls).length := by
           have := HR3.out.1.lk; simp [nums]; omega
          exact ⟨⟨_, zax h k _ (zLe (by rw [hl]; exact hkl))⟩, h.frozenAt _, (h.lt rb rfl).2⟩
         have HCR := hid hcr; have htm : ta ≠ w5.heap.size := by
          obtain ⟨es, clock, hm1, _, _⟩ := HRK.out.m.fMap; have := zaa hm1; omega
         have HTM := hid htm; clear hR3 hTA hta hcr hb0 hb1 htm; by_cases hz0 : to' = (0, 0)
         . have hrest := HRS.out
           rw [if_pos hz0] at hrest; have HRST := hid hrest; have HE := hid (decide_eq_true hz0); generalize ((setsk.findIdx? (fun x => decide (x = to'))).getD 0) = ix at hlk; generalize ((setsk.findIdx? (fun x => decide (x = to'))).isSome) = bx at hlk; clear hz0 hrest; go_upto_region 33 with (first | (go_at_call 64; refine (zdU to' _).mono ?_; rintro e w6 ⟨rfl, hb6⟩; rw [HE.out]; have HB6 := hid hb6; clear hb6))
           obtain ⟨⟨u, zu⟩, zf, zl⟩ := HCR.out _ HB6.out; clear hlk d0 d1 lta; go_wp2_with (fail); go_roundw
           case rel => exact ⟨k + 1, gs', cs', tagk, setsk, rowk ++ [-1], rfl, by go_num, by omega, (HR3.out.1.later HB6.out).store hkl (-1) HRST.out⟩
           case measure => (simp [RowKit.intOf] <;> omega)
         have hrest := HRS.out
         rw [if_neg hz0] at hrest; have HE := hid (decide_eq_false hz0); clear hz0; cases hfi : setsk.findIdx? (fun x => decide (x = to')) with
         | some jx =>
          rw [hfi] at hrest hlk; simp only [Option.getD_some, Option.isSome_some] at hlk; have HRST := hid hrest; clear hfi hrest; go_upto_region 34 with (first | (go_at_call 64; refine (zdU to' _).mono ?_; rintro e w6 ⟨rfl, hb6⟩; rw [HE.out]; have HB6 := hid hb6; clear hb6))
          obtain ⟨⟨u, zu⟩, zf, zl⟩ := HCR.out _ HB6.out; clear hlk d0 d1 lta; go_wp2_with (fail); go_roundw
          case rel => exact ⟨k + 1, gs', cs', tagk, setsk, rowk ++ [(jx : Int)], rfl, by go_num, by omega, (HR3.out.1.later HB6.out).store hkl jx HRST.out⟩
          case measure => (simp [RowKit.intOf] <;> omega)
         | none =>
          rw [hfi] at hrest hlk; simp only [Option.getD_none, Option.isSome_none] at hlk; have h200 : ¬ 200 < setsk.length := fun h => by rw [if_pos h] at hrest; cases hrest
          rw [if_neg h200] at hrest; have HRST := hid hrest; have HFI := hid hfi; have hz200 : (setsk.length : Int) <= 200 := by omega
          clear hfi hrest h200; go_upto_region 34 with (first | (go_at_call 64; refine (zdU to' _).mono ?_; rintro e w6 ⟨rfl, hb6⟩; rw [HE.out]; have HB6 := hid hb6; clear hb6))
          have hR6 := HR3.out.1.later HB6.out; obtain ⟨w8, hmu, hmp8, hgr8⟩ := map_put hR6.m.fMap hR6.ok to' HTOK.out HFI.out; unfold setV at hmu; have hta6 : zcN w6 ta to' := (HB6.out.block ta lta).trans HR3.out.2; have hta8 : zcN w8 ta to' := (hgr8.block ta (zaa hta6) (fun e => HTM.out (by cases e; rfl))).trans hta6; obtain ⟨e0, e1⟩ := hta6.cells; obtain ⟨f0, f1⟩ := hta8.cells; have l6 := zaa hta6; have l8 := zaa hta8; have hmg : gs' ≠ w5.heap.size := fun e => by have h1 := hR6.m.t3 gs' rfl; rw [e, hR6.m.t2] at h1; cases h1
          have hrow8 : w8.ownsRow 0 147 2 (.slice (some ⟨gs', 0, none⟩) setsk.length cs') setsk.length (setCells setsk) := zaI hR6.m.fSets (fun g hg => hgr8.block g (hR6.m.fSets.lt g hg).2 (fun e => by cases hg; exact hmg (by cases e; rfl))); have HROW8 := hid hrow8; have hbn : setsk.length + 1 <= 1000000000 := by omega
          have hc9 : ∀ w9, (w8.alloc (.cells #[.int .u64 to'.1, .int .u64 to'.2] 147)).grownBy w9 (some gs') -> (∃ u, w9.cell? ⟨rb, k, none⟩ = some u) /\ w9.frozen? ⟨rb, k, none⟩ = false /\ rb < w9.heap.size := fun w9 hg9 => by
           have lr6 := (hR6.rr.lt rb rfl).2; have hs8 := hgr8.size; have tg3 := hR6.m.t3 gs' rfl; have hb9 : w9.heap[rb]? = w6.heap[rb]? := (hg9.block rb (by simp; omega) (fun e => by cases e; rw [hR6.tr] at tg3; cases tg3)).trans ((zau _ _ _ (by omega)).trans (hgr8.block rb lr6 (fun e => by
            have h2 := hR6.m.t2; have h3 := hR6.tr; injection e with e
            rw [<- e, h3] at h2; cases h2)))
           have h : w9.ownsRow 0 3 1 (.slice (some ⟨rb, 0, none⟩) (zat L.cls).length (zat L.cls).length) (zat L.cls).length (nums (rowk ++ List.replicate ((zat L.cls).length - k) 0)) := zaI hR6.rr (fun g hg => by cases hg; exact hb9); have hl : (nums (rowk ++ List.replicate ((zat L.cls).length - k) 0)).length = (zat L.cls).length := by
            have := hR6.lk; simp [nums]; omega
           exact ⟨⟨_, zax h k _ (zLe (by rw [hl]; exact hkl))⟩, h.frozenAt _, (h.lt rb rfl).2⟩
          have HC9 := hid hc9; have H6 := hid (And.intro hR6 (And.intro hmp8 hgr8)); clear hc9 hrow8 hmg hta6 hta8 hR6 hmp8 hgr8 hlk d0 d1 lta
          go_wp2_with (at_builtin; refine zan _ rfl _ _ rfl elemSet _ _ _ rfl (by exact HROW8.out.alloc _) ⟨_, 0, none⟩ 1 1 [.int .u64 to'.1, .int .u64 to'.2] rfl rfl (zaD _ #[.int .u64 to'.1, .int .u64 to'.2] _ _ (by simp)) (by simp [Value.oneCell']) (by decide) hbn (by decide) ?_; intro v9 w9 hrow9 hgr9 hbl9; obtain ⟨g9, cap9, rfl⟩ := zbl hrow9; obtain ⟨⟨u, zu⟩, zf, zl⟩ := HC9.out w9 hgr9; have H9 := hid (And.intro hrow9 (And.intro hgr9 hbl9)); clear hrow9 hgr9 hbl9); go_roundw
          case rel => exact ⟨k + 1, g9, cap9, _, setsk ++ [to'], rowk ++ [(setsk.length : Int)], by simp, by go_num, by omega, H6.out.1.put to' HTOK.out HFI.out (by omega) H6.out.2.2 H6.out.2.1 _ _ H9.out.1 H9.out.2.1 H9.out.2.2 _ hkl HRST.out⟩
          case measure => (simp [RowKit.intOf] <;> omega)
       have hzk : ¬ (k : Int) < ((zat L.cls).length : Int) := by omega
       have hke : k = (zat L.cls).length := by omega
       subst hke; have hrest := hRk.rest; rw [List.drop_of_length_le (by simp), zdP] at hrest; have hse : setsk = sets2 /\ rowk = row2 := by cases hrest; exact ⟨rfl, rfl⟩
       obtain ⟨rfl, rfl⟩ := hse; have hfin := hRk.m.finish rb hRk.tr; have hrr : wr.ownsRow 0 3 1 (.slice (some ⟨rb, 0, none⟩) (zat L.cls).length (zat L.cls).length) (zat L.cls).length (nums rowk) := by
        have h := hRk.rr; rw [Nat.sub_self, List.replicate_zero, List.append_nil] at h; exact h
       have htr6 : zaR tagk rb 6 rb = 6 := zch _ _ _; generalize zaR tagk rb 6 = tag1 at hfin htr6; have HFN := hid (And.intro hfin (And.intro hrr (And.intro htr6 (And.intro hRk.lk (And.intro hRk.ok (And.intro hRk.nd hRk.le)))))); have t2 := zab _ _ 2 _ _ _ hfin.ht; simp only [zLa, zLb, zLc] at t2; have ltb := zaa hfin.ht; have hgn : goes'.length + 1 <= 1000000000 := by have := HO.out.lg; omega
       have hrn : rule'.length + 1 <= 1000000000 := by have := HO.out.lr; omega
       have hs9 : ∀ w9 ob, (wr.alloc ob).grownBy w9 vg.ownBlock -> w9.frozen? ⟨tb, 2, none⟩ = false /\ (∃ u, w9.cell? ⟨tb, 2, none⟩ = some u) /\ tb < w9.heap.size := fun w9 ob hg => by
        obtain ⟨k1, k2, k3⟩ := zcq (off := 2) HFN.out.1.ht (fun e => by have h1 := HFN.out.1.t5 tb e; rw [HFN.out.1.t1] at h1; cases h1) hg; exact ⟨k2, ⟨_, k1⟩, k3⟩
       have HS9 := hid hs9; clear hRk hrest hfin hrr htr6 hs9
       go_upto_region 43 with (at_builtin; refine zan _ rfl _ _ rfl elemRow _ _ _ rfl (by exact HFN.out.1.fGoes.alloc _) ⟨_, 0, none⟩ 1 1 [.slice (some ⟨rb, 0, none⟩) (zat L.cls).length (zat L.cls).length] rfl rfl (zaD _ #[.slice (some ⟨rb, 0, none⟩) (zat L.cls).length (zat L.cls).length] _ _ (by simp)) (by simp [Value.oneCell']) (by decide) hgn (by decide) ?_; intro v9 w9 hrow9 hgr9 hbl9; obtain ⟨g9, cap9, rfl⟩ := zbl hrow9; obtain ⟨zf, ⟨u, zu⟩, zl⟩ := HS9.out w9 _ hgr9; have H9 := hid (And.intro hrow9 (And.intro hgr9 hbl9)); clear hrow9 hgr9 hbl9)
       have hm10 := HFN.out.1.appGoes rowk rb _ _ HFN.out.2.2.2.1 HFN.out.2.1 HFN.out.2.2.1 _ _ H9.out.1 H9.out.2.1 H9.out.2.2; generalize zaR tag1 (wr.heap.size + 1) 5 = tag2 at hm10; generalize w9.setCell ⟨tb, 2, none⟩ (.slice (some ⟨g9, 0, none⟩) (goes'.length + 1) cap9) = w10 at hm10 ⊢; have HM10 := hid hm10; have t1 := zab _ _ 1 _ _ _ hm10.ht; simp only [zLa, zLb, zLc] at t1; have ltb := zaa hm10.ht
       have hs11 : ∀ w11 ob, (w10.alloc ob).grownBy w11 vr.ownBlock -> w11.frozen? ⟨tb, 1, none⟩ = false /\ (∃ u, w11.cell? ⟨tb, 1, none⟩ = some u) /\ tb < w11.heap.size := fun w11 ob hg => by
        obtain ⟨k1, k2, k3⟩ := zcq (off := 1) HM10.out.ht (fun e => by have h1 := HM10.out.t4 tb e; rw [HM10.out.t1] at h1; cases h1) hg; exact ⟨k2, ⟨_, k1⟩, k3⟩
       have HS11 := hid hs11; clear hm10 hs11 zf zu zl t2; go_upto_region 14 with (at_builtin; refine zan _ rfl _ _ rfl elemInt _ _ _ rfl (by exact HM10.out.fRule.alloc _) ⟨_, 0, none⟩ 1 1 [.int .i64 r] rfl rfl (zaD _ #[.int .i64 r] _ _ (by simp)) (by simp [Value.oneCell']) (by decide) hrn (by decide) ?_; intro v11 w11 hrow11 hgr11 hbl11; obtain ⟨g11, cap11, rfl⟩ := zbl hrow11; obtain ⟨zf, ⟨u, zu⟩, zl⟩ := HS11.out w11 _ hgr11; have H11 := hid (And.intro hrow11 (And.intro hgr11 hbl11)); clear hrow11 hgr11 hbl11)
       have hm12 := HM10.out.appRule r _ _ H11.out.1 H11.out.2.1 H11.out.2.2; generalize zaR tag2 (w10.heap.size + 1) 4 = tag3 at hm12; generalize w11.setCell ⟨tb, 1, none⟩ (.slice (some ⟨g11, 0, none⟩) (rule'.length + 1) cap11) = w12 at hm12 ⊢; have HM12 := hid hm12; clear hm12 zf zu zl t1; have hwrapi : IntKind.i64.wrap ((i : Int) + 1) = (i : Int) + 1 := IntWalk.i64_in _ (by omega); go_wp2_with (fail); go_roundg f'
       case rel =>
        refine ⟨i + 1, gs', cs', f', tag3, setsk, rule' ++ [r], goes' ++ [rowk], _, _, _, rfl, by go_num, rfl, HM12.out, HR2.out, by simp [HO.out.lr], by simp [HO.out.lg], HFN.out.2.2.2.2.1, HFN.out.2.2.2.2.2.1, HFN.out.2.2.2.2.2.2⟩
       case measure => have := HF9.out; omega
   have hz : ¬ (i : Int) < (sets.length : Int) := by omega
   have hfin : rule' = rule /\ goes' = goes := by
    have hrest := HO.out.rest; cases f9 with
    | zero => rw [za1, if_neg (by rw [HO.out.lr]; exact hlt)] at hrest; cases hrest; exact ⟨rfl, rfl⟩
    | succ k => rw [za1, if_neg (by rw [HO.out.lr]; exact hlt)] at hrest; cases hrest; exact ⟨rfl, rfl⟩
   obtain ⟨h1, h2⟩ := hfin; have hm := HO.out.m; rw [h1, h2] at hm; have hgpos : 0 < goes.length := hT.some'; have hrl : rule.length = goes.length := hT.rules; obtain ⟨gr', cr', rfl⟩ : ∃ g cap, vr = .slice (some ⟨g, 0, none⟩) rule.length cap := by
    rcases zaG hm.fRule with ⟨_, h0⟩ | ⟨g, cap, e, _⟩
    . omega
    exact ⟨g, cap, e⟩
   obtain ⟨gg', cg', rfl⟩ : ∃ g cap, vg = .slice (some ⟨g, 0, none⟩) goes.length cap := by
    rcases zaG hm.fGoes with ⟨_, h0⟩ | ⟨g, cap, e, _⟩
    . omega
    exact ⟨g, cap, e⟩
   have HMF := hid hm; have htab := hm.tabAt HCC.out hcl hgl 0 wr (fun _ _ => rfl) hm.ht; have hbd := bound_any ⟨zat L.cls, rule, goes, 0⟩ R f hT best2 b2 HM.out.2.1 HM.out.2.2 wr.heap.size wr tb _ _ _ _ _ _ htab (Nat.le_refl _); obtain ⟨bnd, hbnd⟩ : ∃ b, b = (if b2.round then -1 else best2 + 1) := ⟨_, rfl⟩; rw [<- hbnd] at hbd; have HBD := hid hbd; have HBN := hid hbnd; clear hbnd; clear h1 h2 hm hgpos hrl htab hbd
   go_wp2_with (first | (go_at_call 48; refine (HBD.out).mono ?_; rintro e w13 ⟨rfl, hb13⟩; have hbt13 := (hb13.block tb (zaa HMF.out.ht)).trans HMF.out.ht; have k3 := zab _ _ 3 _ _ _ hbt13; simp only [zLa, zLb, zLc] at k3; have kf := zae _ _ 3 _ _ hbt13; have kl := zaa hbt13; have H13 := hid (And.intro hb13 hbt13); clear hb13 hbt13)); have hm13 := HMF.out.later H13.out.1; refine bodyPost_ret (v := .tuple #[zaj tb, .bool true]) (by simp [results, Tryz.results34, go_sem]) rfl ?_
   refine ⟨tb, bc, cc, gr', cr', gg', cg', rfl, by rw [HTE.out, <- HBN.out]; exact hm13.tabAt HCC.out hcl hgl _ _ (fun b hb => zaf _ _ _ _ hb) (zac _ _ 3 _ _ _ _ H13.out.2), htb.1, ?_⟩; have hb := hm13.below; exact ⟨hb.os, hb.tape, hb.output, by simpa using hb.size, fun b hb' => (zaf _ _ _ _ (fun e => by have h1 := htb.1; have e' : b = tb := e; omega)).trans (hb.block b hb')⟩
end
section
open Go.RowKit Go.Lib
structure Comp (strs : List ByteArray) (T : Tab) (f : Nat) (trees : List Tree) (s2 : zaz) (L : Lay) (rule : List Int) (goes : List (List Int)) (R fb : Nat) (best2 : Int) (b2 : BSt) : Prop where
 n1 : 1 <= strs.length
 n8 : strs.length <= 8
 small : ∀ s ∈ strs, s.size <= 60
 parse : ∀ (i : Nat) (s : ByteArray), strs[i]? = some s -> ∃ t, trees[i]? = some t /\ zds s = .ok t
 len : trees.length = strs.length
 lay : zbS f trees 0 lay0 zfk = some (s2, L)
 smallS : zfM s2
 pos : 0 < L.cls.length
 max : L.cls.length <= 65
 ranges : ∀ c ∈ L.cls, zbP c
 cuts : (zba L.cls).length < 1000000
 lr : L.rule.length = L.cls.length
 lf : L.follow.length = L.cls.length
 fok : ∀ x ∈ L.follow, x.Ok
 make : za1 L ((zat L.cls).map (zav L.cls)) 202 [(1, 0)] [] [] = some (rule, goes)
 wf : WfT ⟨zat L.cls, rule, goes, 0⟩ R
 bound : zaN ⟨zat L.cls, rule, goes, 0⟩ fb goes.length 0 0 ⟨List.replicate goes.length 0, List.replicate goes.length 0, false⟩ = some (best2, b2)
 fin : ∀ j, b2.far.getD j 0 <= 1000000
 goesN : goes.length < 1000000
 tab : T = ⟨zat L.cls, rule, goes, if b2.round then -1 else best2 + 1⟩
def CompO (T : Tab) (w : World) (e : Ending) (w' : World) : Prop := ∃ cb tb bc cc br cr bg cg, e = .returned (.tuple #[zaj cb, .nilIface]) /\ w'.heap[cb]? = some (.cells #[zaj tb] 70 (0, 0)) /\ zbY w'.heap.size w' tb T bc cc br cr bg cg /\ w.heap.size <= tb /\ w.heap.size <= cb /\ Below w.heap.size w w'
theorem zey (strs : List ByteArray) (T : Tab) {f : Nat} {trees : List Tree} {s2 : zaz} {L : Lay} {rule : List Int} {goes : List (List Int)} {R fb : Nat} {best2 : Int} {b2 : BSt} (hC : Comp strs T f trees s2 L rule goes R fb best2 b2)
 (w : World) (g cap : Nat) (hrow : w.ownsRow 0 9 1 (.slice (some ⟨g, 0, none⟩) strs.length cap) strs.length (strs.map Value.string)) (hT : Tabs w) (hW : Wid w) (hG : Glob <= w.heap.size) :
 Calls Tryz.prog 24 #[.slice (some ⟨g, 0, none⟩) strs.length cap] w (CompO T w) := by
 have HC := hid hC; have HROW := hid hrow; have HT := hid (And.intro hT hW); have hn1 : ¬ (strs.length : Int) < 1 := by have := hC.n1; omega
 have hn8 : (strs.length : Int) <= 8 := by have := hC.n8; omega
 have hlg := (hrow.lt g rfl).2; clear hC hrow hT hW; go_enter Tryz.func24, Tryz.ntmps24; go_wp2_with (fail); go_loopw [21] (fun s21 wr => ∃ i : Nat, s21 = .int .i64 i /\ i <= strs.length /\ wr = w) (fun s21 _ => strs.length - (RowKit.intOf s21).toNat)
 case atStart => exact ⟨0, rfl, by omega, rfl⟩
 case round =>
  obtain ⟨i, rfl, hi, rfl⟩ := hrel; by_cases hlt : i < strs.length
  . have hz : (i : Int) < (strs.length : Int) := by omega
    obtain ⟨s, hs⟩ : ∃ s, strs[i]? = some s := ⟨strs[i], zLe hlt⟩; have hcs := zax HROW.out i (.string s) (by rw [List.getElem?_map, hs]; rfl); have h60 : (s.size : Int) <= 60 := by have := HC.out.small s (List.mem_of_getElem? hs); omega
    have hwrapi : IntKind.i64.wrap ((i : Int) + 1) = (i : Int) + 1 := IntWalk.i64_in _ (by omega); clear hs; go_wp2_with (fail); go_roundw
    case rel => exact ⟨i + 1, by go_num, by omega, trivial⟩
    case measure => (simp [RowKit.intOf] <;> omega)
  have hz : ¬ (i : Int) < (strs.length : Int) := by omega
  go_upto_region 12 with (first | (go_at_call 33; refine (zkZ f strs trees s2 L wr g cap HROW.out HC.out.small HC.out.n8 HT.out.1 hG HC.out.parse HC.out.len HC.out.lay HC.out.smallS).mono ?_; rintro e w1 ⟨bl, rfl, hl1, hb1⟩))
  have hmake := make_any L bl w1 hl1 HC.out.pos HC.out.max HC.out.ranges (HT.out.2.below hb1 hG) (Nat.le_trans hG hb1.size) HC.out.cuts HC.out.lr HC.out.lf HC.out.fok rule goes HC.out.make R fb HC.out.wf best2 b2 HC.out.bound HC.out.fin HC.out.goesN T HC.out.tab; have HMK := hid hmake; have HB1 := hid hb1; clear hmake hl1 hb1; go_wp2_with (first | (go_at_call 34; refine (HMK.out).mono ?_; rintro e w2 ⟨tb, bc, cc, br, cr, bg, cg, rfl, htab2, htb2, hb2⟩; have H2 := hid (And.intro htab2 (And.intro htb2 hb2)); clear htab2 htb2 hb2))
  refine bodyPost_ret (v := .tuple #[zaj w2.heap.size, .nilIface]) (by simp [results, Tryz.results24, go_sem]) rfl ?_; have hb := zb9 HB1.out H2.out.2.2 HB1.out.size; have hb3 := hb.alloc hb.size (.cells #[zaj tb] 70); refine ⟨w2.heap.size, tb, bc, cc, br, cr, bg, cg, rfl, zaB _ _ _ rfl, (H2.out.1.below ((Below.refl _ w2).alloc (Nat.le_refl _) _)).mono (by simp), Nat.le_trans HB1.out.size H2.out.2.1, hb.size, hb3⟩
end
section
open Go.RowKit Go.Lib
def zeh : List ByteArray -> Option (List Tree)
 | [] => some []
 | s :: r =>
  match zds s with
  | .error _ => none
  | .ok t =>
   match zeh r with
   | none => none
   | some l => some (t :: l)
theorem zfO : ∀ (l : List ByteArray) (ts : List Tree), zeh l = some ts -> ts.length = l.length /\ ∀ (i : Nat) (s : ByteArray), l[i]? = some s -> ∃ t, ts[i]? = some t /\ zds s = .ok t
 | [], ts, h => by
  cases h; exact ⟨rfl, fun i s hs => by simp at hs⟩
 | s :: r, ts, h => by
  unfold zeh at h; cases hp : zds s with
  | error e => simp [hp] at h
  | ok t =>
   cases hr : zeh r with
   | none => simp [hp, hr] at h
   | some l =>
    simp only [hp, hr, Option.some.injEq] at h; subst h; have ih := zfO r l hr; refine ⟨by simp [ih.1], fun i s' hs => ?_⟩; cases i with
    | zero => simp only [zLb, Option.some.injEq] at hs ⊢; subst hs; exact ⟨t, rfl, hp⟩
    | succ i => simp only [zLc] at hs ⊢; exact ih.2 i s' hs
structure Cpd where
 trees : List Tree
 s2 : zaz
 L : Lay
 rule : List Int
 goes : List (List Int)
 best : Int
 b2 : BSt
def cpd (strs : List ByteArray) (f fb : Nat) : Option Cpd :=
 match zeh strs with
 | none => none
 | some trees =>
  match zbS f trees 0 lay0 zfk with
  | none => none
  | some (s2, L) =>
   match za1 L ((zat L.cls).map (zav L.cls)) 202 [(1, 0)] [] [] with
   | none => none
   | some (rule, goes) =>
    match zaN ⟨zat L.cls, rule, goes, 0⟩ fb goes.length 0 0 ⟨List.replicate goes.length 0, List.replicate goes.length 0, false⟩ with
    | none => none
    | some (best, b2) => some ⟨trees, s2, L, rule, goes, best, b2⟩
def tabC (c : Cpd) : Tab := ⟨zat c.L.cls, c.rule, c.goes, if c.b2.round then -1 else c.best + 1⟩
def okC (strs : List ByteArray) (c : Cpd) (R : Nat) : Bool :=
 decide (1 <= strs.length) && decide (strs.length <= 8) && strs.all (fun s => decide (s.size <= 60)) && c.s2.knots.all (fun k => decide (k.to.length <= 1000000)) && decide (c.s2.knots.length <= 1000000) && decide (c.s2.cls.length <= 1000000) &&
 decide (0 < c.L.cls.length) && decide (c.L.cls.length <= 65) && c.L.cls.all (fun l => l.all fun r => decide (0 <= r.1 /\ r.1 <= 1114111 /\ 0 <= r.2 /\ r.2 <= 1114111)) && decide ((zba c.L.cls).length < 1000000) &&
 decide (c.L.rule.length = c.L.cls.length) && decide (c.L.follow.length = c.L.cls.length) && c.L.follow.all (fun x => decide (x.1 < W64 /\ x.2 < W64)) && c.b2.far.all (fun x => decide (x <= 1000000)) && decide (c.goes.length < 1000000)
def wfC (T : Tab) (R : Nat) : Bool :=
 decide (T.cuts.Pairwise (· < ·)) && decide (T.cuts.head? = some 0) && T.cuts.all (fun c => decide (c <= 1114111)) && decide (0 < T.goes.length) && decide (T.rule.length = T.goes.length) && T.goes.all (fun r => decide (r.length = T.cuts.length)) &&
 T.goes.all (fun r => r.all fun x => decide (-1 <= x /\ x < T.goes.length)) && T.rule.all (fun x => decide (-1 <= x /\ x < R))
theorem wf_of {T : Tab} {R : Nat} (h : wfC T R = true) : WfT T R := by
 simp only [wfC, Bool.and_eq_true, decide_eq_true_eq, List.all_eq_true] at h; obtain ⟨⟨⟨⟨⟨⟨⟨h1, h2⟩, h3⟩, h4⟩, h5⟩, h6⟩, h7⟩, h8⟩ := h; exact ⟨h1, h2, h3, h4, h5, h6, h7, h8⟩
def CompT (strs : List ByteArray) (T : Tab) (R : Nat) : Prop := WfT T R /\ ∃ f trees s2 L rule goes fb best2 b2, Comp strs T f trees s2 L rule goes R fb best2 b2
def compC (strs : List ByteArray) (f fb R : Nat) : Bool :=
 match cpd strs f fb with
 | none => false
 | some c => okC strs c R && wfC (tabC c) R
def tabP (strs : List ByteArray) (f fb : Nat) : Tab :=
 match cpd strs f fb with
 | none => ⟨[], [], [], 0⟩
 | some c => tabC c
theorem comp_of {strs : List ByteArray} {f fb R : Nat} (h : compC strs f fb R = true) : CompT strs (tabP strs f fb) R := by
 unfold compC at h; unfold tabP; cases hc : cpd strs f fb with
 | none => simp [hc] at h
 | some c =>
  simp only [hc, Bool.and_eq_true] at h; obtain ⟨ho, hw⟩ := h; have hW := wf_of hw; refine ⟨hW, ?_⟩; unfold cpd at hc; cases hp : zeh strs with
  | none => simp [hp] at hc
  | some trees =>
   cases hl : zbS f trees 0 lay0 zfk with
   | none => simp [hp, hl] at hc
   | some sL =>
    obtain ⟨s2, L⟩ := sL; cases hm : za1 L ((zat L.cls).map (zav L.cls)) 202 [(1, 0)] [] [] with
    | none => simp [hp, hl, hm] at hc
    | some rg =>
     obtain ⟨rule, goes⟩ := rg; cases hb : zaN ⟨zat L.cls, rule, goes, 0⟩ fb goes.length 0 0 ⟨List.replicate goes.length 0, List.replicate goes.length 0, false⟩ with
     | none => simp [hp, hl, hm, hb] at hc
     | some bb =>
      obtain ⟨best, b2⟩ := bb; simp only [hp, hl, hm, hb, Option.some.injEq] at hc; subst hc; simp only [okC, Bool.and_eq_true, decide_eq_true_eq, List.all_eq_true] at ho; obtain ⟨⟨⟨⟨⟨⟨⟨⟨⟨⟨⟨⟨⟨⟨k1, k2⟩, k3⟩, k4⟩, k5⟩, k6⟩, k7⟩, k8⟩, k9⟩, k10⟩, k11⟩, k12⟩, k13⟩, k14⟩, k15⟩ := ho; have hpa := zfO strs trees hp; refine ⟨f, trees, s2, L, rule, goes, fb, best, b2, k1, k2, k3, hpa.2, hpa.1, hl, ⟨fun k => ?_, k5, k6⟩, k7, k8, fun c hc r hr => k9 c hc r hr, k10, k11, k12, k13, hm, ⟨hW.rise, hW.head, hW.top, hW.some', hW.rules, hW.rows, hW.cells, hW.ruleR⟩, hb, fun j => ?_, k15, rfl⟩
      . show ((s2.knots[k]?.map (·.to)).getD []).length <= 1000000
        cases hk : s2.knots[k]? with
        | none => simp
        | some kn => exact k4 kn (List.mem_of_getElem? hk)
      rw [zLf]
      cases hj : b2.far[j]? with
      | none => simp
      | some v => exact k14 v (List.mem_of_getElem? hj)
end
section
open Go.RowKit Go.Lib
def zck : Nat -> List ByteArray
 | 0 => [⟨#[91, 97, 45, 122, 93, 43]⟩, ⟨#[91, 48, 45, 57, 93, 43]⟩, ⟨#[32, 43]⟩]
 | 1 => [⟨#[97]⟩, ⟨#[97, 98]⟩, ⟨#[97, 98, 99, 42, 100]⟩]
 | 2 => [⟨#[91, 94, 92, 117, 123, 48, 125, 45, 92, 117, 123, 55, 102, 125, 93, 43]⟩, ⟨#[46]⟩, ⟨#[92, 110]⟩]
 | 3 => [⟨#[47, 92, 42, 40, 91, 94, 42, 93, 124, 92, 42, 43, 91, 94, 42, 47, 93, 41, 42, 92, 42, 43, 47]⟩, ⟨#[47]⟩, ⟨#[91, 97, 98, 42, 93]⟩]
 | 4 => [⟨#[40, 97, 98, 41, 123, 50, 44, 51, 125]⟩, ⟨#[195, 169, 123, 50, 125]⟩, ⟨#[120, 63, 121]⟩]
 | 5 => [⟨#[92, 117, 123, 49, 70, 54, 48, 48, 125, 43, 124, 92, 117, 123, 50, 48, 65, 67, 125]⟩, ⟨#[97, 92, 117, 123, 49, 70, 54, 48, 48, 125, 98]⟩]
 | 6 => [⟨#[97, 123, 48, 44, 56, 125, 98]⟩, ⟨#[97]⟩]
 | _ => [⟨#[105, 102, 124, 101, 108, 115, 101]⟩, ⟨#[91, 97, 45, 122, 93, 91, 97, 45, 122, 48, 45, 57, 93, 42]⟩, ⟨#[91, 48, 45, 57, 93, 43, 40, 92, 46, 91, 48, 45, 57, 93, 43, 41, 63]⟩, ⟨#[92, 110, 124, 92, 116, 124, 32]⟩]
def zis : List ByteArray := [⟨#[97]⟩, ⟨#[98]⟩]
def zhY : Tab := tabP zis 1000 100000
def tabOf (i : Nat) : Tab := tabP (zck i) 1000 100000
theorem comp_ab : CompT zis zhY 2 := comp_of (by decide +kernel)
theorem comp_i : ∀ i : Nat, i < 8 -> CompT (zck i) (tabOf i) (zck i).length := by
 intro i hi; have : compC (zck i) 1000 100000 (zck i).length = true := by
  have h8 : ∀ j : Fin 8, compC (zck j.val) 1000 100000 (zck j.val).length = true := by decide +kernel
  exact h8 ⟨i, hi⟩
 exact comp_of this
end
section
open Go.RowKit Go.Lib
def zg2 (c : Int) (n : Nat) : Nat := (if c < 0 then -(c + 1) else c).toNat % n
theorem pick_any (c : Int) (n : Nat) (hc : -9223372036854775808 <= c /\ c <= 9223372036854775807) (hn : 0 < n) (hn2 : n <= 1000000) (w : World) :
 Calls Tryz.prog 19 #[.int .i64 c, .int .i64 n] w fun e w' => e = .returned (.int .i64 (zg2 c n)) /\ w' = w := by
 have hz : ((n : Int) == 0) = false := by simp; omega
 by_cases h : c < 0
 . have e1 : IntKind.i64.wrap (c + 1) = c + 1 := IntWalk.i64_in _ (by omega)
   have e2 : IntKind.i64.wrap (-(c + 1)) = -(c + 1) := IntWalk.i64_in _ (by omega); go_enter Tryz.func19, Tryz.ntmps19; go_wp2; go_ret; refine ⟨?_, rfl⟩; have e3 : -(c + 1).tmod (n : Int) = ((zg2 c n : Nat) : Int) := by
    unfold zg2; rw [if_pos h, <- Int.neg_tmod, Int.tmod_eq_emod_of_nonneg (by omega), Int.natCast_emod, Int.toNat_of_nonneg (by omega)]
   rw [<- e3]; rfl
 go_enter Tryz.func19, Tryz.ntmps19
 go_wp2; go_ret; refine ⟨?_, rfl⟩; have e3 : c % (n : Int) = ((zg2 c n : Nat) : Int) := by
  unfold zg2; rw [if_neg (by omega), Int.natCast_emod, Int.toNat_of_nonneg (by omega)]
 rw [<- e3]; rfl
theorem pick_lt (c : Int) (n : Nat) (h : 0 < n) : zg2 c n < n := Nat.mod_lt _ h
theorem zkc (w : World) (l : List ByteArray) (n : Nat) (hn : l.length = n) (h1 : n <= 100) : (w.alloc (.cells (l.map Value.string).toArray 9)).ownsRow 0 9 1 (.slice (some ⟨w.heap.size, 0, none⟩) n n) n (l.map Value.string) :=
 ⟨by simp [hn], .inr ⟨w.heap.size, n, (l.map Value.string).toArray, rfl, Nat.zero_le _, zaB _ _ _ rfl, Nat.le_refl _, by unfold maxLen; omega, by simp [hn], by
  rw [Nat.mul_one]; exact List.take_of_length_le (by simp [hn])⟩⟩
def RulesO (k : Nat) (w : World) (e : Ending) (w' : World) : Prop :=
 ∃ g, e = .returned (.slice (some ⟨g, 0, none⟩) (zck k).length (zck k).length) /\
  w'.ownsRow 0 9 1 (.slice (some ⟨g, 0, none⟩) (zck k).length (zck k).length) (zck k).length ((zck k).map Value.string) /\ Below w.heap.size w w'
theorem rules_any (c : Int) (hc : -9223372036854775808 <= c /\ c <= 9223372036854775807) (w : World) :
 Calls Tryz.prog 14 #[.int .i64 c] w (RulesO (zg2 c 8) w) := by
 have hp := pick_any c 8 hc (by decide) (by decide) w; have hl := pick_lt c 8 (by decide); generalize zg2 c 8 = k at hp hl ⊢; have hb : ∀ o : Obj, Below w.heap.size w (w.alloc o) := fun o => (Below.refl _ w).alloc (Nat.le_refl _) _; obtain rfl | rfl | rfl | rfl | rfl | rfl | rfl | rfl : k = 0 \/ k = 1 \/ k = 2 \/ k = 3 \/ k = 4 \/ k = 5 \/ k = 6 \/ k = 7 := by omega
 all_goals
  go_enter Tryz.func14, Tryz.ntmps14; go_wp2_with (first | (go_at_call 19; refine hp.mono ?_; rintro e w1 ⟨rfl, rfl⟩)); go_ret; exact ⟨_, rfl, zkc _ (zck _) _ rfl (by decide), hb _⟩
end
end Go.Proofs.YtghpmhllpaheiaaGreatDoor
