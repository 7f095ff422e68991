/-
  Part of the proof: Lay9. No condition beyond those in the statements.
-/
import Derived.Laws.EntriesVeiled
import Derived.StillTailTactics
import Derived.Test.YtghpmhllpaheiaaGreatDoorL18
import Derived.Test.YtghpmhllpaheiaaGreatDoorL08
set_option linter.unusedVariables false
set_option linter.unusedSimpArgs false
set_option maxRecDepth 100000
set_option maxHeartbeats 4000000
namespace Go.Proofs.YtghpmhllpaheiaaGreatDoor
open Go.RowKit Go.Lib
theorem zhK {P : Program} {t e : TypeId} {size bytes : Nat} {z : Value} (hu : P.underlying t = some (.slice e)) (hi : (P.info? e).map (fun i => (i.zero, i.size, i.bytes)) = some (some z, size, bytes)) (hs : size <= 1000) (hb : bytes <= 1000) (c : Array Value) (hc : madeCells z.cells (1 * size) = c) (w : World) :
 (Instr.makeSlice t (.int .i64 1) (.int .i64 1)).run P w = .ok (.slice (some ⟨w.heap.size, 0, none⟩) 1 1) (w.alloc (.cells c e)) := by
 obtain ⟨i, h1, h2, h3, h4⟩ := info_parts hi; have h := run_makeSlice w t e i z hu h1 h2 .i64 .i64 1 1 (by decide) (by decide) (by rw [h3]; simp; omega) (by rw [h4]; omega) (by decide); rw [h, h3, <- hc]; rfl
theorem zkJ (w : World) : (Instr.makeSlice 129 (.int .i64 1) (.int .i64 1)).run Tryz.prog w = .ok (.slice (some ⟨w.heap.size, 0, none⟩) 1 1) (w.alloc (.cells #[.slice none 0 0] 200)) :=
 zhK (z := .slice none 0 0) (size := 1) (bytes := 24) Tryz.underlying129 (by kernel_rfl) (by decide) (by decide) _ (by kernel_rfl) w
theorem make_set (w : World) : (Instr.makeSlice 130 (.int .i64 1) (.int .i64 1)).run Tryz.prog w = .ok (.slice (some ⟨w.heap.size, 0, none⟩) 1 1) (w.alloc (.cells #[.int .u64 0, .int .u64 0] 147)) :=
 zhK (z := .agg #[.int .u64 0, .int .u64 0]) (size := 2) (bytes := 16) Tryz.underlying130 (by kernel_rfl) (by decide) (by decide) _ (by kernel_rfl) w
theorem make_knot (w : World) : (Instr.makeSlice 134 (.int .i64 1) (.int .i64 1)).run Tryz.prog w = .ok (.slice (some ⟨w.heap.size, 0, none⟩) 1 1) (w.alloc (.cells #[.pointer none] 141)) :=
 zhK (z := .pointer none) (size := 1) (bytes := 8) Tryz.underlying134 (by kernel_rfl) (by decide) (by decide) _ (by kernel_rfl) w
structure L3 (w wx : World) (A bl gc gf gr : Nat) : Prop where
 ptr : wx.heap[A]? = some (.cells #[zaj bl] 88 (0, 0))
 lay : wx.heap[bl]? = some (.cells #[.slice (some ⟨gc, 0, none⟩) 1 1, .slice (some ⟨gf, 0, none⟩) 1 1, .slice (some ⟨gr, 0, none⟩) 1 1] 132 (0, 0))
 hc : wx.heap[gc]? = some (.cells #[.slice none 0 0] 200 (0, 0))
 hf : wx.heap[gf]? = some (.cells #[.int .u64 0, .int .u64 0] 147 (0, 0))
 hr : wx.heap[gr]? = some (.cells #[.int .i64 (-1)] 3 (0, 0))
 old : ∀ b, b < w.heap.size -> b ≠ A -> wx.heap[b]? = w.heap[b]?
 new : w.heap.size <= bl /\ w.heap.size <= gc /\ w.heap.size <= gf /\ w.heap.size <= gr
 ne : bl ≠ gc /\ bl ≠ gf /\ bl ≠ gr /\ gc ≠ gf /\ gc ≠ gr /\ gf ≠ gr
 os : wx.os = w.os
 tape : wx.tape = w.tape
 output : wx.output = w.output
 size : w.heap.size <= wx.heap.size
theorem L3.of {w : World} {A gc gf gr : Nat} {o1 o2 o3 : Obj} (hA : w.heap[A]? = some (.cells #[.pointer none] 88 (0, 0)))
 (h : ((gc = w.heap.size /\ o1 = .cells #[.slice none 0 0] 200) \/ (gc = w.heap.size + 1 /\ o2 = .cells #[.slice none 0 0] 200) \/ (gc = w.heap.size + 1 + 1 /\ o3 = .cells #[.slice none 0 0] 200)) /\
  ((gf = w.heap.size /\ o1 = .cells #[.int .u64 0, .int .u64 0] 147) \/ (gf = w.heap.size + 1 /\ o2 = .cells #[.int .u64 0, .int .u64 0] 147) \/ (gf = w.heap.size + 1 + 1 /\ o3 = .cells #[.int .u64 0, .int .u64 0] 147)) /\
  ((gr = w.heap.size /\ o1 = .cells #[.int .i64 (-1)] 3) \/ (gr = w.heap.size + 1 /\ o2 = .cells #[.int .i64 (-1)] 3) \/ (gr = w.heap.size + 1 + 1 /\ o3 = .cells #[.int .i64 (-1)] 3)) /\ gc ≠ gf /\ gc ≠ gr /\ gf ≠ gr) :
 L3 w (((((w.setCell ⟨A, 0, none⟩ (zaj (w.heap.size + 1 + 1 + 1))).alloc o1).alloc o2).alloc o3).alloc (.cells #[.slice (some ⟨gc, 0, none⟩) 1 1, .slice (some ⟨gf, 0, none⟩) 1 1, .slice (some ⟨gr, 0, none⟩) 1 1] 132)).drew A (w.heap.size + 1 + 1 + 1) gc gf gr := by
 have lA := zaa hA; obtain ⟨h1, h2, h3, h4⟩ := h; have k0 : ∀ b, b < w.heap.size -> (((((w.setCell ⟨A, 0, none⟩ (zaj (w.heap.size + 1 + 1 + 1))).alloc o1).alloc o2).alloc o3).alloc (.cells #[.slice (some ⟨gc, 0, none⟩) 1 1, .slice (some ⟨gf, 0, none⟩) 1 1, .slice (some ⟨gr, 0, none⟩) 1 1] 132)).drew.heap[b]? = (w.setCell ⟨A, 0, none⟩ (zaj (w.heap.size + 1 + 1 + 1))).heap[b]? := by
  intro b hb; show ((((((w.setCell ⟨A, 0, none⟩ (zaj (w.heap.size + 1 + 1 + 1))).alloc o1).alloc o2).alloc o3).alloc _)).heap[b]? = _; rw [zap, if_neg (by simp; omega), zap, if_neg (by simp; omega), zap, if_neg (by simp; omega), zap, if_neg (by simp; omega)]
 have kn : ∀ b, (((((w.setCell ⟨A, 0, none⟩ (zaj (w.heap.size + 1 + 1 + 1))).alloc o1).alloc o2).alloc o3).alloc (.cells #[.slice (some ⟨gc, 0, none⟩) 1 1, .slice (some ⟨gf, 0, none⟩) 1 1, .slice (some ⟨gr, 0, none⟩) 1 1] 132)).drew.heap[b]? =
  if b = w.heap.size + 1 + 1 + 1 then some (.cells #[.slice (some ⟨gc, 0, none⟩) 1 1, .slice (some ⟨gf, 0, none⟩) 1 1, .slice (some ⟨gr, 0, none⟩) 1 1] 132) else if b = w.heap.size + 1 + 1 then some o3 else if b = w.heap.size + 1 then some o2 else if b = w.heap.size then some o1 else (w.setCell ⟨A, 0, none⟩ (zaj (w.heap.size + 1 + 1 + 1))).heap[b]? := by
  intro b; show ((((((w.setCell ⟨A, 0, none⟩ (zaj (w.heap.size + 1 + 1 + 1))).alloc o1).alloc o2).alloc o3).alloc _)).heap[b]? = _; simp [zap]
 have obj : ∀ {g : Nat} {O : Obj}, ((g = w.heap.size /\ o1 = O) \/ (g = w.heap.size + 1 /\ o2 = O) \/ (g = w.heap.size + 1 + 1 /\ o3 = O)) -> (((((w.setCell ⟨A, 0, none⟩ (zaj (w.heap.size + 1 + 1 + 1))).alloc o1).alloc o2).alloc o3).alloc (.cells #[.slice (some ⟨gc, 0, none⟩) 1 1, .slice (some ⟨gf, 0, none⟩) 1 1, .slice (some ⟨gr, 0, none⟩) 1 1] 132)).drew.heap[g]? = some O := by
  rintro g O (⟨rfl, rfl⟩ | ⟨rfl, rfl⟩ | ⟨rfl, rfl⟩)
  . rw [kn, if_neg (by omega), if_neg (by omega), if_neg (by omega), if_pos rfl]
  . rw [kn, if_neg (by omega), if_neg (by omega), if_pos rfl]
  rw [kn, if_neg (by omega), if_pos rfl]
 refine ⟨?_, ?_, obj h1, obj h2, obj h3, fun b hb hn => ?_, by omega, by omega, rfl, rfl, rfl, ?_⟩
 . rw [k0 A lA, zac w A 0 _ _ _ _ hA]; rfl
 . rw [kn, if_pos rfl]
 . rw [k0 b hb, zaf _ _ _ _ hn]
 show w.heap.size <= ((((((w.setCell ⟨A, 0, none⟩ (zaj (w.heap.size + 1 + 1 + 1))).alloc o1).alloc o2).alloc o3).alloc _)).heap.size
 simp; omega
def tagL (bl gc gf gr n b : Nat) : Nat := if b = bl then 1 else if b = gc then 3 else if b = gf then 6 else if b = gr then 4 else if b = n then 5 else if b = n + 1 then 2 else 0
structure L4 (w wx : World) (A bl bm : Nat) (tag : Nat -> Nat) : Prop where
 lay : zcC wx tag bl bm [] lay0 [-1] [(0, 0)]
 upd : LUpd (fun _ => 0) tag w wx
 ptr : wx.heap[A]? = some (.cells #[zaj bl] 88 (0, 0)) /\ tag A = 0
 err : wx.heap[A + 1]? = some (.cells #[.nilIface] 34 (0, 0)) /\ tag (A + 1) = 0
 at' : (∃ x, wx.heap[A + 1 + 1]? = some (.cells #[.int .i64 x] 3 (0, 0))) /\ tag (A + 1 + 1) = 0
theorem L4.of {w w1 wc : World} {A bl gc gf gr : Nat} (hb : Below w.heap.size w w1) (hA : A = w.heap.size) (hz : w1.heap.size = A + 3) (hB : w1.heap[A + 1]? = some (.cells #[.nilIface] 34 (0, 0))) (hC : w1.heap[A + 1 + 1]? = some (.cells #[.int .i64 0] 3 (0, 0))) (h : L3 w1 wc A bl gc gf gr) :
 ∃ tag, L4 w ((wc.alloc (.cells #[.pointer none] 141)).alloc (.cells #[zaj bl, .slice (some ⟨wc.heap.size, 0, none⟩) 1 1] 136)).drew A bl (wc.heap.size + 1) tag := by
 have hl := zaa h.lay; have hgc := zaa h.hc; have hgf := zaa h.hf; have hgr := zaa h.hr; have hsz := h.size; obtain ⟨n1, n2, n3, n4⟩ := h.new; obtain ⟨e1, e2, e3, e4, e5, e6⟩ := h.ne; have k : ∀ b, b < wc.heap.size -> ((wc.alloc (.cells #[.pointer none] 141)).alloc (.cells #[zaj bl, .slice (some ⟨wc.heap.size, 0, none⟩) 1 1] 136)).drew.heap[b]? = wc.heap[b]? := by
  intro b hb; show ((wc.alloc (.cells #[.pointer none] 141)).alloc _).heap[b]? = _; rw [zap, if_neg (by simp; omega), zap, if_neg (by omega)]
 have k5 : ((wc.alloc (.cells #[.pointer none] 141)).alloc (.cells #[zaj bl, .slice (some ⟨wc.heap.size, 0, none⟩) 1 1] 136)).drew.heap[wc.heap.size]? = some (.cells #[.pointer none] 141 (0, 0)) := by
  show ((wc.alloc (.cells #[.pointer none] 141)).alloc _).heap[wc.heap.size]? = _; rw [zap, if_neg (by simp), zap, if_pos rfl]
 have km : ((wc.alloc (.cells #[.pointer none] 141)).alloc (.cells #[zaj bl, .slice (some ⟨wc.heap.size, 0, none⟩) 1 1] 136)).drew.heap[wc.heap.size + 1]? = some (.cells #[zaj bl, .slice (some ⟨wc.heap.size, 0, none⟩) 1 1] 136 (0, 0)) := by
  show ((wc.alloc (.cells #[.pointer none] 141)).alloc _).heap[wc.heap.size + 1]? = _; rw [zap, if_pos (by simp)]
 have hm1 : (1 : Nat) <= maxLen := by decide
 refine ⟨tagL bl gc gf gr wc.heap.size,
  ⟨[], .slice (some ⟨gc, 0, none⟩) 1 1, .slice (some ⟨gf, 0, none⟩) 1 1, .slice (some ⟨gr, 0, none⟩) 1 1, .slice (some ⟨wc.heap.size, 0, none⟩) 1 1, [.slice none 0 0], [.pointer none], ?_, ?_⟩, ?_, ⟨?_, ?_⟩, ⟨?_, ?_⟩, ⟨⟨0, ?_⟩, ?_⟩⟩
 . exact ⟨rfl, rfl, fun i hi => absurd hi (by simp [lay0]), fun i hi => absurd hi (by simp [lay0]), fun i hi => absurd hi (by simp [lay0]), fun i g hi => absurd hi (by simp [lay0]), fun i j hi => absurd hi (by simp [lay0])⟩
 . refine ⟨(k bl hl).trans h.lay, km, by unfold tagL; exact if_pos rfl, ?_, ⟨rfl, .inr ⟨gc, 1, #[.slice none 0 0], rfl, Nat.zero_le _, (k gc hgc).trans h.hc, Nat.le_refl _, hm1, rfl, rfl⟩⟩, ?_, ⟨rfl, .inr ⟨gr, 1, #[.int .i64 (-1)], rfl, Nat.zero_le _, (k gr hgr).trans h.hr, Nat.le_refl _, hm1, rfl, rfl⟩⟩,
    ⟨rfl, .inr ⟨gf, 1, #[.int .u64 0, .int .u64 0], rfl, Nat.zero_le _, (k gf hgf).trans h.hf, Nat.le_refl _, hm1, rfl, rfl⟩⟩, ⟨rfl, .inr ⟨wc.heap.size, 1, #[.pointer none], rfl, Nat.zero_le _, k5, Nat.le_refl _, hm1, rfl, rfl⟩⟩, ?_, ?_, ?_, ?_, ?_⟩
   . show tagL bl gc gf gr wc.heap.size (wc.heap.size + 1) = 2
     unfold tagL; rw [if_neg (by omega), if_neg (by omega), if_neg (by omega), if_neg (by omega), if_neg (by omega), if_pos rfl]
   . intro i c hc
     cases i with
     | zero =>
      cases hc; exact ⟨_, rfl, zdj _ _ _, fun g hg => by cases hg⟩
     | succ i => simp [lay0] at hc
   . intro i j hi hj
     cases i with
     | zero => omega
     | succ i => simp [lay0] at hj
   . intro g hg
     have hg' : g = gc := by cases hg; rfl
     rw [hg']; unfold tagL; rw [if_neg (by omega), if_pos rfl]
   . intro g hg
     have hg' : g = gr := by cases hg; rfl
     rw [hg']; unfold tagL; rw [if_neg (by omega), if_neg (by omega), if_neg (by omega), if_pos rfl]
   . intro g hg
     have hg' : g = wc.heap.size := by cases hg; rfl
     rw [hg']; unfold tagL; rw [if_neg (by omega), if_neg (by omega), if_neg (by omega), if_neg (by omega), if_pos rfl]
   intro g hg
   have hg' : g = gf := by cases hg; rfl
   rw [hg']; unfold tagL; rw [if_neg (by omega), if_neg (by omega), if_pos rfl]
 . refine ⟨h.os.trans hb.os, h.tape.trans hb.tape, h.output.trans hb.output, ?_, fun b hlt => ?_, fun b hlt _ => ?_⟩
   . show w.heap.size <= ((wc.alloc (.cells #[.pointer none] 141)).alloc _).heap.size
     simp; omega
   . show tagL bl gc gf gr wc.heap.size (b) = 0
     unfold tagL; rw [if_neg (by omega), if_neg (by omega), if_neg (by omega), if_neg (by omega), if_neg (by omega), if_neg (by omega)]
   rw [k b (by omega), h.old b (by omega) (by omega)]; exact hb.block b hlt
 . exact (k A (by omega)).trans h.ptr
 . show tagL bl gc gf gr wc.heap.size (A) = 0
   unfold tagL; rw [if_neg (by omega), if_neg (by omega), if_neg (by omega), if_neg (by omega), if_neg (by omega), if_neg (by omega)]
 . exact (k (A + 1) (by omega)).trans ((h.old _ (by omega) (by omega)).trans hB)
 . show tagL bl gc gf gr wc.heap.size (A + 1) = 0
   unfold tagL; rw [if_neg (by omega), if_neg (by omega), if_neg (by omega), if_neg (by omega), if_neg (by omega), if_neg (by omega)]
 . exact (k (A + 1 + 1) (by omega)).trans ((h.old _ (by omega) (by omega)).trans hC)
 show tagL bl gc gf gr wc.heap.size (A + 1 + 1) = 0
 unfold tagL; rw [if_neg (by omega), if_neg (by omega), if_neg (by omega), if_neg (by omega), if_neg (by omega), if_neg (by omega)]
structure OutSt (f : Nat) (trees : List Tree) (s2 : zaz) (L2 : Lay) (w : World) (A bl bm : Nat) (i : Nat) (s : zaz) (L : Lay) (adr : List Nat) (tag : Nat -> Nat) (wr : World) : Prop where
 lay : zcC wr tag bl bm adr s L.rule L.follow
 upd : LUpd (fun _ => 0) tag w wr
 ptr : wr.heap[A]? = some (.cells #[zaj bl] 88 (0, 0)) /\ tag A = 0
 err : wr.heap[A + 1]? = some (.cells #[.nilIface] 34 (0, 0)) /\ tag (A + 1) = 0
 at' : (∃ x, wr.heap[A + 1 + 1]? = some (.cells #[.int .i64 x] 3 (0, 0))) /\ tag (A + 1 + 1) = 0
 rest : zbS f (trees.drop i) i s L = some (s2, L2)
 cls : L.cls = s.cls
 lr : L.rule.length = s.cls.length
 lf : L.follow.length = s.cls.length
 lb : s.behind.length = s.cls.length
 pos : 0 < s.cls.length
 pl : PlOk s
 fok : ∀ x ∈ L.follow, x.Ok
theorem zcC.tree {w w' : World} {tag : Nat -> Nat} {bl bm : Nat} {adr : List Nat} {s : zaz} {rule : List Int} {follow : List Set2} (h : zcC w tag bl bm adr s rule follow) (hb : Below w.heap.size w w') : zcC w' (fun b => if b < w.heap.size then tag b else 7) bl bm adr s rule follow := by
 obtain ⟨vs, vc, vf, vr, vb, cvs, bvs, hK, hM⟩ := h; have ht : ∀ b, b < w.heap.size -> (fun b => if b < w.heap.size then tag b else 7) b = tag b := fun b hb => if_pos hb; exact ⟨vs, vc, vf, vr, vb, cvs, bvs, hK.apart ht fun b hb' _ => hb.block b hb', hM.keep1 (fun b hb' _ _ => hb.block b hb') ht⟩
theorem LUpd.below {w w' : World} {tag tag' : Nat -> Nat} (hb : Below w.heap.size w w') (ht : ∀ b, b < w.heap.size -> tag' b = tag b) : LUpd tag tag' w w' := ⟨hb.os, hb.tape, hb.output, hb.size, ht, fun b hb' _ => hb.block b hb'⟩
theorem zcC.set0 {w : World} {tag : Nat -> Nat} {bl bm : Nat} {adr : List Nat} {s : zaz} {rule : List Int} {follow : List Set2} (h : zcC w tag bl bm adr s rule follow) (c : Nat) (hc : tag c = 0) (v : Value) : zcC (w.setCell ⟨c, 0, none⟩ v) tag bl bm adr s rule follow := by
 obtain ⟨vs, vc, vf, vr, vb, cvs, bvs, hK, hM⟩ := h; have k : ∀ b, tag b ≠ 0 -> (w.setCell ⟨c, 0, none⟩ v).heap[b]? = w.heap[b]? := fun b hb => zaf _ _ _ _ (fun e => hb (by rw [show b = c from e]; exact hc)); exact ⟨vs, vc, vf, vr, vb, cvs, bvs, hK.apart (fun _ _ => rfl) fun b _ hb => k b (by omega), hM.keep1 (fun b _ h1 _ => k b (by omega)) (fun _ _ => rfl)⟩
theorem LUpd.from0 {w w1 : World} {tag : Nat -> Nat} (h : LUpd (fun _ => 0) tag w w1) (c : Nat) (hc : w.heap.size <= c) (v : Value) (o : Nat) : LUpd (fun _ => 0) tag w (w1.setCell ⟨c, o, none⟩ v) :=
 ⟨h.os, h.tape, h.output, by simpa using h.size, h.tags, fun b hb ht => (zaf _ _ _ _ (fun e => by have : b = c := e; omega)).trans (h.keep b hb ht)⟩
theorem altP_fuel {s : ByteArray} {t : Tree} (h : zds s = .ok t) (h0 : s.size <= 60) : altP s (4 * s.size + 10) 0 0 ≠ .error (0, 0) := by
 intro e; rw [zds, e] at h; cases h
theorem or_ok {s o : Set2} (hs : s.Ok) (ho : o.Ok) : (s.or o).Ok := ⟨Nat.or_lt_two_pow (n := 64) hs.1 ho.1, Nat.or_lt_two_pow (n := 64) hs.2 ho.2⟩
mutual
theorem zar.lt {S : Nat -> Prop} {w : World} : ∀ (t : Tree) (v : Value), zar S w t v -> zar (fun g => S g /\ g < w.heap.size) w t v
 | .cls l, v, hv => by
  simp only [zar] at hv ⊢; obtain ⟨sl, h1, h2, h3⟩ := hv; exact ⟨sl, h1, h2, fun g hg => ⟨h3 g hg, (h2.lt g hg).2⟩⟩
 | .row l, v, hv => by
  simp only [zar] at hv ⊢; obtain ⟨sl, vs, h1, h2, h3, h4⟩ := hv; exact ⟨sl, vs, h1, h2, fun g hg => ⟨h3 g hg, (h2.lt g hg).2⟩, zaC.lt l vs h4⟩
 | .either a b, v, hv => by
  simp only [zar] at hv ⊢; obtain ⟨va, vb, h1, h2, h3⟩ := hv; exact ⟨va, vb, h1, zar.lt a va h2, zar.lt b vb h3⟩
 | .rep t m o, v, hv => by
  simp only [zar] at hv ⊢; obtain ⟨vt, h1, h2⟩ := hv; exact ⟨vt, h1, zar.lt t vt h2⟩
theorem zaC.lt {S : Nat -> Prop} {w : World} : ∀ (l : List Tree) (vs : List Value), zaC S w l vs -> zaC (fun g => S g /\ g < w.heap.size) w l vs
 | [], vs, h => by simp only [zaC] at h ⊢; exact h
 | t :: l, vs, h => by
  simp only [zaC] at h ⊢; obtain ⟨v, r, h1, h2, h3⟩ := h; exact ⟨v, r, h1, zar.lt t v h2, zaC.lt l r h3⟩
end
theorem zcC.finish {w : World} {tag : Nat -> Nat} {bl bm : Nat} {adr : List Nat} {s : zaz} {rule : List Int} {follow : List Set2} (h : zcC w tag bl bm adr s rule follow) (p : Nat) (hp : p < s.knots.length) :
 zcC (w.setCell ⟨adr.getD p 0, 2, none⟩ (.bool true)) tag bl bm adr (s.finish p) rule follow /\ LUpd tag tag w (w.setCell ⟨adr.getD p 0, 2, none⟩ (.bool true)) := by
 obtain ⟨vs, vc, vf, vr, vb, cvs, bvs, hK, hM⟩ := h; have hu := KUpd.atKnot hK p hp 2 (.bool true); exact ⟨⟨vs, vc, vf, vr, vb, cvs, bvs, hK.finish p hp, hM.keep1 (fun b hb _ h7 => hu.keep b hb (by omega)) (fun _ _ => rfl)⟩, LUpd.of_k hu⟩
theorem LUpd.of_d {tag tag' : Nat -> Nat} {w w' : World} (h : DUpd tag tag' w w') : LUpd tag tag' w w' := ⟨h.os, h.tape, h.output, h.size, h.tags, fun b hb ht => h.keep b hb (by omega)⟩
structure Own (w : World) (A bl : Nat) (tag : Nat -> Nat) (wr : World) : Prop where
 upd : LUpd (fun _ => 0) tag w wr
 ptr : wr.heap[A]? = some (.cells #[zaj bl] 88 (0, 0)) /\ tag A = 0
 err : wr.heap[A + 1]? = some (.cells #[.nilIface] 34 (0, 0)) /\ tag (A + 1) = 0
 at' : (∃ x, wr.heap[A + 1 + 1]? = some (.cells #[.int .i64 x] 3 (0, 0))) /\ tag (A + 1 + 1) = 0
theorem Own.next {w wr wx : World} {A bl : Nat} {tag tag' : Nat -> Nat} (h : Own w A bl tag wr) (hu : LUpd tag tag' wr wx) : Own w A bl tag' wx := by
 obtain ⟨⟨x, hx⟩, ht⟩ := h.at'; refine ⟨h.upd.trans hu, ⟨?_, ?_⟩, ⟨?_, ?_⟩, ⟨⟨x, ?_⟩, ?_⟩⟩
 . exact (hu.keep _ (zaa h.ptr.1) (.inl h.ptr.2)).trans h.ptr.1
 . exact (hu.tags _ (zaa h.ptr.1)).trans h.ptr.2
 . exact (hu.keep _ (zaa h.err.1) (.inl h.err.2)).trans h.err.1
 . exact (hu.tags _ (zaa h.err.1)).trans h.err.2
 . exact (hu.keep _ (zaa hx) (.inl ht)).trans hx
 exact (hu.tags _ (zaa hx)).trans ht
theorem OutSt.own {f : Nat} {trees : List Tree} {s2 : zaz} {L2 : Lay} {w : World} {A bl bm i : Nat} {s : zaz} {L : Lay} {adr : List Nat} {tag : Nat -> Nat} {wr : World} (h : OutSt f trees s2 L2 w A bl bm i s L adr tag wr) : Own w A bl tag wr := ⟨h.upd, h.ptr, h.err, h.at'⟩
theorem Own.set {w wr : World} {A bl : Nat} {tag : Nat -> Nat} (h : Own w A bl tag wr) (hA : w.heap.size <= A) (z : Int) : Own w A bl tag (wr.setCell ⟨A + 1 + 1, 0, none⟩ (.int .i64 z)) := by
 obtain ⟨⟨x, hx⟩, ht⟩ := h.at'; refine ⟨h.upd.from0 _ (by omega) _ _, ⟨(zaf _ _ _ _ (by simp; omega)).trans h.ptr.1, h.ptr.2⟩, ⟨(zaf _ _ _ _ (by simp)).trans h.err.1, h.err.2⟩, ⟨⟨z, ?_⟩, ht⟩⟩; rw [zac _ (A + 1 + 1) 0 _ _ _ _ hx]; rfl
theorem zai {B : Nat} {a b : World} (hb : Below B a b) (x : Addr) (hx : x.block < B) : b.cell? x = a.cell? x := by
 unfold World.cell?; rw [hb.block _ hx]
theorem zcC.first {w w2 : World} {tag : Nat -> Nat} {bl bm : Nat} {adr : List Nat} {s : zaz} {rule : List Int} {follow : List Set2} {vs : List Value} {vc vf vr vb : Value} {cvs bvs : List Value} (hK : KAt w tag adr vs s.knots (fun _ => false))
 (hM : MAt w tag bl bm s.cls rule follow adr s.behind vc vf vr vb cvs bvs) (hb : Below w.heap.size w w2) (g cap : Nat) (hv : vf = .slice (some ⟨g, 0, none⟩) follow.length cap) (f0 : Set2) (fr : List Set2) (hf : follow = f0 :: fr) (x : Set2) :
 zcC ((w2.setCell ⟨g, 0, none⟩ (.int .u64 x.1)).setCell ⟨g, 1, none⟩ (.int .u64 x.2)) tag bl bm adr s rule (x :: fr) /\ LUpd tag tag w ((w2.setCell ⟨g, 0, none⟩ (.int .u64 x.1)).setCell ⟨g, 1, none⟩ (.int .u64 x.2)) := by
 have tg : tag g = 6 := hM.t6 g (by rw [hv]; rfl); have k : ∀ b, b < w.heap.size -> b ≠ g -> ((w2.setCell ⟨g, 0, none⟩ (.int .u64 x.1)).setCell ⟨g, 1, none⟩ (.int .u64 x.2)).heap[b]? = w.heap[b]? := fun b hb' hn => by
  rw [zaf _ _ _ _ hn, zaf _ _ _ _ hn]; exact hb.block b hb'
 have h2 := (hM.keep1 (fun b hb' _ _ => hb.block b hb') (fun _ _ => rfl)).setFirst g cap hv f0 fr hf x; refine ⟨⟨vs, vc, vf, vr, vb, cvs, bvs, hK.apart (fun _ _ => rfl) (fun b hb' ht => k b hb' (fun e => by rw [e, tg] at ht; omega)), h2⟩, ⟨hb.os, hb.tape, hb.output, by simpa using hb.size, fun _ _ => rfl, fun b hb' ht => k b hb' (fun e => by rw [e, tg] at ht; omega)⟩⟩
structure InSt (G : List Knot) (f i : Nat) (sf : zaz) (L3 : Lay) (w : World) (A bl bm : Nat) (adr : List Nat) (n : Nat) (L : Lay) (tag : Nat -> Nat) (wr : World) : Prop where
 lay : zcC wr tag bl bm adr sf (L.rule ++ List.replicate (sf.cls.length - n) (-1)) L.follow
 own : Own w A bl tag wr
 rest : zbh G f i (sf.behind.drop n) L = some L3
 lr : L.rule.length = n
 lf : L.follow.length = n
 fok : ∀ x ∈ L.follow, x.Ok
 cls : L.cls = sf.cls
theorem AUpd.lupd {tag tag' : Nat -> Nat} {c b : Nat} {w w' : World} (h : AUpd tag tag' c b w w') (hc : c ≠ 0 /\ c ≠ 7) (hb : tag b ≠ 0 /\ tag b ≠ 7) : LUpd tag tag' w w' := LUpd.of_a h hc hb
theorem set_mid (r : List Int) (k : Nat) (x : Int) : (r ++ List.replicate (k + 1) (-1 : Int)).set r.length x = r ++ [x] ++ List.replicate k (-1) := by
 rw [List.set_append_right _ _ (Nat.le_refl _), Nat.sub_self, List.replicate_succ, List.set_cons_zero, List.append_assoc]; rfl
theorem keep_mid (r : List Int) (k : Nat) : r ++ List.replicate (k + 1) (-1 : Int) = r ++ [-1] ++ List.replicate k (-1) := by
 rw [List.replicate_succ, List.append_assoc]; rfl
def zeU (w : World) (bl : Nat) (L : Lay) : Prop := ∃ vc vf vr cvs, w.heap[bl]? = some (.cells #[vc, vf, vr] 132 (0, 0)) /\ w.ownsRow 0 200 1 vc L.cls.length cvs /\
 (∀ (i : Nat) (c : List (Int × Int)), L.cls[i]? = some c -> ∃ cv, cvs[i]? = some cv /\ zbq w cv c) /\ w.ownsRow 0 3 1 vr L.rule.length (L.rule.map (Value.int .i64)) /\ w.ownsRow 0 147 2 vf L.follow.length (setCells L.follow)
theorem zeU.ext {w w' : World} {bl : Nat} {L : Lay} (h : zeU w bl L) (hx : ∀ b, b < w.heap.size -> w'.heap[b]? = w.heap[b]?) : zeU w' bl L := by
 obtain ⟨vc, vf, vr, cvs, h1, h2, h3, h4, h5⟩ := h; refine ⟨vc, vf, vr, cvs, (hx bl (zaa h1)).trans h1, zaI h2 fun g hg => hx g (h2.lt g hg).2, fun i c hc => ?_, zaI h4 fun g hg => hx g (h4.lt g hg).2, zaI h5 fun g hg => hx g (h5.lt g hg).2⟩; obtain ⟨cv, k1, k2⟩ := h3 i c hc; exact ⟨cv, k1, zaI k2 fun g hg => hx g (k2.lt g hg).2⟩
theorem lay_idle (a b c : Addr) (w : World) :
 CallsD Tryz.prog 55 #[.pointer (some a), .pointer (some b), .pointer (some c)] .returning w fun e u' w' => e = .returned (.tuple #[]) /\ u' = .returning /\ w' = w := by
 refine callsD_of_wpS Tryz.func55 rfl fun c₀ cs hu => ?_; apply wpS_seq; apply wpS_region; generalize hQ : Exit.thenS _ _ = Q; simp [wpOpsS, go_sem, recoverD, hu, Tryz.ntmps55]; subst hQ; simp only [Exit.thenS]; refine wpS_of_wp (wp_mono (Q := fun en a' w' => en = .normal /\ a'.defers = [] /\ w' = w) ?_ ?_)
 . change Code.wp _ _ _ { tmps := #[.pointer (some a), .pointer (some b), .pointer (some c), undef, undef, undef, .nilIface, undef, undef, undef, undef, undef, undef, undef, undef, undef, undef], defers := [] } w
   go_wp2
   all_goals trivial
 rintro e a' w' ⟨rfl, hd, rfl⟩
 cases c₀; simp_all [bodyPostS, results, Tryz.results55]
theorem zkZ (f : Nat) (strs : List ByteArray) (trees : List Tree) (s2 : zaz) (L2 : Lay) (w : World) (g cap : Nat) (hrow : w.ownsRow 0 9 1 (.slice (some ⟨g, 0, none⟩) strs.length cap) strs.length (strs.map Value.string)) (hsz : ∀ s ∈ strs, s.size <= 60) (hn : strs.length <= 8) (hT : Tabs w) (hg : Glob <= w.heap.size)
 (hp : ∀ (i : Nat) (s : ByteArray), strs[i]? = some s -> ∃ t, trees[i]? = some t /\ zds s = .ok t) (hlen : trees.length = strs.length) (hl : zbS f trees 0 lay0 zfk = some (s2, L2)) (hs : zfM s2) :
 Calls Tryz.prog 33 #[.slice (some ⟨g, 0, none⟩) strs.length cap] w fun e w' => ∃ bl, e = .returned (.tuple #[zaj bl, .nilIface]) /\ zeU w' bl L2 /\ Below w.heap.size w w' := by
 have hmf : ∀ (fn : Fn) (first cap : Array Value) (w : World), (Instr.makeFunc fn first cap).run Tryz.prog w = .ok (.func fn first cap) w := fun _ _ _ _ => rfl; have hm1 := zkJ; have hm2 := make_set; have hm3 := make_knot
 go_enter_defers Tryz.func33, Tryz.ntmps33
 go_upto_region 3 with (fail)
 have hb1 := (((Below.refl w.heap.size w).alloc (Nat.le_refl _) (.cells #[.pointer none] 88)).alloc (by simp) (.cells #[.nilIface] 34)).alloc (by simp; omega) (.cells #[.int .i64 0] 3); obtain ⟨A, hA⟩ : ∃ A, A = w.heap.size := ⟨_, rfl⟩; rw [<- hA]; have z1 : (((w.alloc (.cells #[.pointer none] 88)).alloc (.cells #[.nilIface] 34)).alloc (.cells #[.int .i64 0] 3)).heap.size = A + 3 := by simp [hA]
 have zA : (((w.alloc (.cells #[.pointer none] 88)).alloc (.cells #[.nilIface] 34)).alloc (.cells #[.int .i64 0] 3)).heap[A]? = some (.cells #[.pointer none] 88 (0, 0)) := by
  rw [hA, zap, if_neg (by simp; omega), zap, if_neg (by simp), zap, if_pos rfl]
 have zB : (((w.alloc (.cells #[.pointer none] 88)).alloc (.cells #[.nilIface] 34)).alloc (.cells #[.int .i64 0] 3)).heap[A + 1]? = some (.cells #[.nilIface] 34 (0, 0)) := by
  rw [hA, zap, if_neg (by simp), zap, if_pos (by simp)]
 have zC : (((w.alloc (.cells #[.pointer none] 88)).alloc (.cells #[.nilIface] 34)).alloc (.cells #[.int .i64 0] 3)).heap[A + 1 + 1]? = some (.cells #[.int .i64 0] 3 (0, 0)) := by
  rw [hA, zap, if_pos (by simp)]
 have HB1 := hid hb1; have HA := hid hA; clear hA hb1; generalize ((w.alloc (.cells #[.pointer none] 88)).alloc (.cells #[.nilIface] 34)).alloc (.cells #[.int .i64 0] 3) = w1 at *; have a0 := zab _ _ 0 _ _ _ zA; have af := zae _ _ 0 _ _ zA; have al := zaa zA; have al1 : A < w1.heap.size + 1 := by omega
 have al2 : A < w1.heap.size + 1 + 1 := by omega
 have al3 : A < w1.heap.size + 1 + 1 + 1 := by omega
 have al4 : A < w1.heap.size + 1 + 1 + 1 + 1 := by omega
 simp only [zLa, zLb] at a0; have HZ := hid (And.intro z1 (And.intro zA (And.intro zB zC))); have HROW := hid hrow; have HP := hid hp; have HL := hid hl; have HSM := hid hs; have HSZ := hid (And.intro hsz (And.intro hT (And.intro hg hlen))); clear z1 zA zB zC hrow hp hl hs hsz hT hg hlen; go_cut [] from 19 to 23 (fun wx => ∃ bl gc gf gr, L3 w1 wx A bl gc gf gr)
 case first =>
  refine wp_region_noPanic ?_
  go_region
  all_goals
   refine NoPanic.normal ?_; go_wp2_with (fail); go_meet
   case rel => exact ⟨_, _, _, _, L3.of HZ.out.2.1 (by simp <;> omega)⟩
 case rest =>
  obtain ⟨bl, gc, gf, gr, h3⟩ := hcut; have H3 := hid h3; have a0 := zab _ _ 0 _ _ _ h3.ptr; have al := zaa h3.ptr; simp only [zLa, zLb] at a0; clear h3; go_upto_region 4 with (fail); go_cut [5] from 24 to 27 (fun s5 wx => ∃ bm tag, s5 = zaj bm /\ L4 w wx A bl bm tag)
  case first =>
   refine wp_region_noPanic ?_
   go_region
   all_goals
    refine NoPanic.normal ?_; go_wp2_with (fail); go_meet
    case rel =>
     obtain ⟨tag, h4⟩ := L4.of HB1.out HA.out HZ.out.1 HZ.out.2.2.1 HZ.out.2.2.2 H3.out; exact ⟨_, tag, rfl, h4⟩
  case rest =>
   obtain ⟨bm, tag4, rfl, h4⟩ := hcut; have hst : OutSt f trees s2 L2 w A bl bm 0 lay0 zfk [] tag4 wc := ⟨h4.lay, h4.upd, h4.ptr, h4.err, h4.at', HL.out, rfl, rfl, rfl, rfl, by decide, fun k => by simp [lay0, zao], fun x hx => by simp [zfk] at hx; subst hx; exact ⟨by decide, by decide⟩⟩; have HST := hid hst; have hwl : w.heap.size = A := HA.out.symm; have HWL := hid hwl; clear h4 hst H3 a0 al hwl af al1 al2 al3 al4 hm1 hm2 hm3; go_wp2_with (fail)
   go_loopw [30] (fun s30 wr => ∃ (i : Nat) (s : zaz) (L : Lay) (adr : List Nat) (tag : Nat -> Nat), s30 = .int .i64 i /\ i <= strs.length /\ OutSt f trees s2 L2 w A bl bm i s L adr tag wr) (fun s30 _ => strs.length - (RowKit.intOf s30).toNat)
   case atStart => exact ⟨0, lay0, zfk, [], tag4, rfl, by omega, HST.out⟩
   case round =>
    obtain ⟨i, s, L, adr, tag, rfl, hi, hO⟩ := hrel; have HO := hid hO; clear hO HST; by_cases hlt : i < strs.length
    . have hz : (i : Int) < (strs.length : Int) := by omega
      obtain ⟨str, hstr⟩ : ∃ str, strs[i]? = some str := ⟨strs[i], zLe hlt⟩; obtain ⟨t, htr, hpt⟩ := HP.out i str hstr; have hs60 := HSZ.out.1 str (List.mem_of_getElem? hstr); have hrun := HO.out.rest; have hilt : i < trees.length := by have := HSZ.out.2.2.2; omega
      have hdrop : trees.drop i = t :: trees.drop (i + 1) := by rw [List.drop_eq_getElem_cons hilt]; congr 1; rw [zLe hilt] at htr; exact Option.some.inj htr
      rw [hdrop, zbS] at hrun; have hcg : wr.cell? ⟨g, i, none⟩ = some (.string str) := by
       have hr2 : wr.ownsRow 0 9 1 (.slice (some ⟨g, 0, none⟩) strs.length cap) strs.length (strs.map Value.string) := zaI HROW.out fun b hb => HO.out.upd.keep b ((HROW.out.lt b hb).2) (.inl rfl); refine zax hr2 _ _ ?_; rw [List.getElem?_map, hstr]; rfl
      have lg : g < wr.heap.size := zLd (HROW.out.lt g rfl).2 HO.out.upd.size; obtain ⟨xc, hxc⟩ := HO.out.at'.1; have cC := zab _ _ 0 _ _ _ hxc; simp only [zLa, zLb] at cC; have fC := zae _ _ 0 _ _ hxc; have lC := zaa hxc; have HXC := hid hxc; have HRUN := hid hrun; have HPT := hid hpt; have HTR := hid hstr; clear hrun hdrop htr hpt hstr hxc; go_upto_region 9 with (fail)
      have hown5 := HO.out.own.set (by have := HA.out; omega) i; have hlay5 := HO.out.lay.set0 (A + 1 + 1) HO.out.at'.2 (.int .i64 i); generalize wr.setCell ⟨A + 1 + 1, 0, none⟩ (.int .i64 i) = w5 at *; have hT5 : Tabs w5 := zfl HSZ.out.2.1 (fun a ha => by
       have hk := hown5.upd.keep a.block (by have := HSZ.out.2.2.1; omega) (.inl rfl); unfold World.cell?; rw [hk])
      have hg5 : Glob <= w5.heap.size := Nat.le_trans HSZ.out.2.2.1 hown5.upd.size; have HOW5 := hid hown5; have HLAY5 := hid hlay5; have HT5 := hid (And.intro hT5 hg5); have hfu := altP_fuel HPT.out hs60; have HFU := hid hfu; clear hown5 hlay5 hT5 hg5 hfu hcg lg cC fC lC HXC; go_upto_region 14 with (go_at_call 56; refine (parse_any str w5 hs60 HT5.out.1 HT5.out.2 HFU.out).mono ?_; rintro e w6 ⟨hres, hb6⟩; unfold PRes at hres; rw [HPT.out] at hres; obtain ⟨v, rfl, htree⟩ := hres; obtain ⟨x, rfl, _⟩ := zcP t v _ w6 htree)
      obtain ⟨tag6, htag6⟩ : ∃ y : Nat -> Nat, y = fun b => if b < w5.heap.size then tag b else 7 := ⟨_, rfl⟩
      have hlay6 := HLAY5.out.tree hb6; have hup6 : LUpd tag tag6 w5 w6 := LUpd.below hb6 (fun b hb => by rw [htag6]; exact if_pos hb); have htr6 : zar (fun g => tag6 g = 7 /\ g < w6.heap.size) w6 t (.iface (plT t) x) := (zar.lt t _ htree).ext (fun g hg => ⟨by rw [htag6]; exact if_neg (by have := hg.1; unfold Fr at this; omega), hg.2⟩) (fun _ _ _ => rfl); rw [<- htag6] at hlay6; have HOW6 := hid (HOW5.out.next hup6); have HLAY6 := hid hlay6; have HTR6 := hid htr6; clear hlay6 hup6 htr6 htree htag6 hb6 HOW5 HLAY5 HT5 HFU; have pA := zab _ _ 0 _ _ _ HOW6.out.ptr.1
      have lA := zaa HOW6.out.ptr.1; simp only [zLa, zLb] at pA; obtain ⟨vs6, vc6, vf6, vr6, vb6, cvs6, bvs6, hK6, hM6⟩ := HLAY6.out; have hbl0 := zab _ _ 0 _ _ _ hM6.hl; have lbl := zaa hM6.hl; simp only [zLa, zLb] at hbl0; obtain ⟨gc, capc, hvc, hcc⟩ : ∃ g cap, vc6 = .slice (some ⟨g, 0, none⟩) s.cls.length cap /\ s.cls.length <= cap := by
       rcases zaG hM6.rc with ⟨_, h0⟩ | ⟨g, cap, e, h1, _⟩
       . have := HO.out.pos; omega
       exact ⟨g, cap, e, h1⟩
      rw [hvc] at hbl0; have hcmax : (s.cls.length : Int) <= 9223372036854775807 := by
       have : s.cls.length <= maxLen := by rcases hM6.rc.2 with ⟨_, h⟩ | ⟨_, _, _, _, _, _, h, h', _⟩ <;> omega
       unfold maxLen at this; omega
      clear hK6 hM6 hvc; have l1 : A < w6.heap.size + 1 := by omega
      have l2 : bl < w6.heap.size + 1 := by omega
      go_cut [11, 12] from 60 to 66 (fun s11 s12 wx => ∃ ab tag7, s11 = zaj ab /\ s12 = .int .i64 s.cls.length /\ zbU tag6 bl bm w6 (s.push ⟨[], 0, false⟩) L.rule L.follow (adr ++ [ab]) tag7 wx)
      case first =>
       refine wp_region_noPanic ?_
       go_region
       all_goals
        refine NoPanic.normal ?_; go_wp2_with (fail); go_meet
        case rel =>
         obtain ⟨tag7, h7⟩ := (show zbU tag6 bl bm w6 s L.rule L.follow adr tag6 w6 from ⟨HLAY6.out, LUpd.refl _ _⟩).push; exact ⟨_, tag7, rfl, rfl, h7.drew⟩
      case rest =>
       obtain ⟨ab, tag7, rfl, rfl, h7⟩ := hcut; have HN7 := hid h7; have hrun := HRUN.out; cases hx1 : layT t s.knots.length (s.push ⟨[], 0, false⟩) with
       | none => rw [hx1] at hrun; cases hrun
       | some es =>
       obtain ⟨p1, s1⟩ := es; rw [hx1] at hrun; simp only at hrun; obtain ⟨G, hG⟩ : ∃ G, G = (s1.finish p1).knots := ⟨_, rfl⟩; rw [<- hG] at hrun; cases hd1 : dfs G f s.knots.length [] with
       | none => rw [hd1] at hrun; cases hrun
       | some ls1 =>
       rw [hd1] at hrun; simp only at hrun; cases hpr : zbh G f i (s1.behind.drop s.behind.length) { L with cls := s1.cls, follow := L.follow.modify 0 (Set2.or · (zam G ls1)) } with
       | none => rw [hpr] at hrun; cases hrun
       | some L3 =>
       rw [hpr] at hrun; simp only at hrun; have hsm1 : zfM (s1.finish p1) := HSM.out.of_later (zfL _ _ _ _ _ _ hrun); have hsm2 : ∀ k, (toOf s1.knots k).length <= 1000000 := fun k => by have := hsm1.1 k; rwa [show toOf (s1.finish p1).knots k = toOf s1.knots k from zdH _ _ _] at this
       have hpl1 : PlOk s1 := zcW t _ _ _ _ hx1 (HO.out.pl.push [] 0 false (by omega)); have hlat1 := zbr t _ _ _ _ hx1; have hlen7 := h7.len; have hab : (adr ++ [ab]).getD s.knots.length 0 = ab := by
        have : adr.length = s.knots.length := by simpa [zaz.push] using hlen7
        rw [<- this]; exact zaQ
       have hcall := zgc t s.knots.length p1 (s.push ⟨[], 0, false⟩) s1 wc tag7 bl bm (adr ++ [ab]) L.rule L.follow _ h7.lay HO.out.lr HO.out.lb HO.out.pos (zar.upd h7.upd HTR6.out) (by simp [zaz.push]) hx1 hsm2; rw [hab] at hcall; have HCALL := hid hcall; have HRUN2 := hid hrun; have HPR := hid hpr; have HD1 := hid hd1; have HG := hid hG; have HS1 := hid (And.intro hsm1 (And.intro hpl1 (And.intro hlat1 (And.intro hlen7 hab)))); have HOW7 := hid (HOW6.out.next h7.upd); clear hcall hrun hpr hd1 hG hsm1 hsm2 hpl1 hlat1 hlen7 hab h7 hx1 hbl0 lbl pA lA l1 l2
       go_upto_region 16 with (go_at_call 57; refine HCALL.out.mono ?_; rintro e w8 ⟨tag8, ext8, rfl, hL8, hp8, hU8⟩; obtain ⟨ap, hap⟩ : ∃ y, y = (adr ++ [ab] ++ ext8).getD p1 0 := ⟨_, rfl⟩; rw [<- hap]; obtain ⟨vs8, vc8, vf8, vr8, vb8, cvs8, bvs8, hK8, hM8⟩ := hL8; have hk8 := hK8.cell p1 hp8; rw [<- hap] at hk8; have c8 := zab _ _ 2 _ _ _ hk8; have f8 := zae _ _ 2 _ _ hk8; have l8 := zaa hk8; simp only [zLa, zLc, zLb] at c8; have HAP := hid hap; have HK8 := hid (And.intro hK8 hM8); have HP8 := hid (And.intro hp8 hU8); clear hap hK8 hM8 hk8 hp8 hU8)
       have hL9 := zcC.finish (show zcC w8 tag8 bl bm (adr ++ [ab] ++ ext8) s1 (L.rule ++ List.replicate (s1.cls.length - (s.push ⟨[], 0, false⟩).cls.length) (-1)) L.follow from ⟨vs8, vc8, vf8, vr8, vb8, cvs8, bvs8, HK8.out.1, HK8.out.2⟩) p1 HP8.out.1; rw [<- HAP.out] at hL9; have hOW9 := (HOW7.out.next HP8.out.2).next hL9.2; generalize w8.setCell ⟨ap, 2, none⟩ (.bool true) = w9 at *; have HL9 := hid hL9; have HOW9 := hid hOW9; clear hL9 hOW9 HK8 c8 f8 l8 HOW7; obtain ⟨vs9, vc9, vf9, vr9, vb9, cvs9, bvs9, hK9, hM9⟩ := HL9.out.1
       have hk0 : s.knots.length < (s1.finish p1).knots.length := by have h : (s.push ⟨[], 0, false⟩).knots.length <= s1.knots.length := HS1.out.2.2.1.1
                                                                     have e1 : (s.push ⟨[], 0, false⟩).knots.length = s.knots.length + 1 := by simp [zaz.push]
                                                                     have e2 : (s1.finish p1).knots.length = s1.knots.length := by simp [zaz.finish]
                                                                     omega
       have hab9 : ab = (adr ++ [ab] ++ ext8).getD s.knots.length 0 := by
        have h7l := HS1.out.2.2.2.1; rw [zas (by rw [h7l]; simp [zaz.push])]; exact HS1.out.2.2.2.2.symm
       have hdl : ls1.length <= 1000000 := by
        have h := zjj (G := (s1.finish p1).knots) hK9.wf (by rw [<- HG.out]; exact HD1.out) hk0; exact Nat.le_trans h HS1.out.1.2.1
       have hpG : ∀ j, zao (s1.finish p1).knots j < 128 := fun j => Nat.lt_of_le_of_lt (HS1.out.2.1.finish p1 j) (by decide); have hcall := ziP (s1.finish p1).knots hpG f s.knots.length ls1 w9 tag8 (adr ++ [ab] ++ ext8) vs9 (by rw [<- HG.out]; exact HD1.out) hK9 hk0 hdl; rw [<- hab9, <- HG.out] at hcall; have HCALL2 := hid hcall; have HM9 := hid hM9; have HPG := hid hpG; clear hcall hK9 hM9 hdl hpG hab9; go_upto_region 17 with (go_at_call 58; refine HCALL2.out.mono ?_; rintro e w10 ⟨rfl, tag10, hK10, hU10⟩; simp only [setV])
       have hM10 := HM9.out.keep1 (fun b hb _ h7 => hU10.keep b hb (by omega)) hU10.tags; have hL10 : zcC w10 tag10 bl bm (adr ++ [ab] ++ ext8) (s1.finish p1) (L.rule ++ List.replicate (s1.cls.length - (s.push ⟨[], 0, false⟩).cls.length) (-1)) L.follow := ⟨vs9, vc9, vf9, vr9, vb9, cvs9, bvs9, by rw [HG.out] at hK10; exact hK10, hM10⟩
       have hN11 := (show zbU tag10 bl bm w10 (s1.finish p1) (L.rule ++ List.replicate (s1.cls.length - (s.push ⟨[], 0, false⟩).cls.length) (-1)) L.follow (adr ++ [ab] ++ ext8) tag10 w10 from ⟨hL10, LUpd.refl _ _⟩).alloc0 (.cells #[.int .u64 (zam G ls1).1, .int .u64 (zam G ls1).2] 147); have hOW11 := (HOW9.out.next (LUpd.of_d hU10)).next hN11.upd
       have hset : (w10.alloc (.cells #[.int .u64 (zam G ls1).1, .int .u64 (zam G ls1).2] 147)).heap[w10.heap.size]? = some (.cells #[.int .u64 (zam G ls1).1, .int .u64 (zam G ls1).2] 147 (0, 0)) := by rw [zap, if_pos rfl]
       obtain ⟨g13, hg13⟩ : ∃ y, y = w10.heap.size := ⟨_, rfl⟩; have ht13 : zaR tag10 w10.heap.size 0 g13 = 0 := by rw [hg13]; simp [zaR]
       rw [<- hg13] at hset ht13 ⊢; rw [<- hg13] at hN11 hOW11; generalize w10.alloc (.cells #[.int .u64 (zam G ls1).1, .int .u64 (zam G ls1).2] 147) = w11 at *; generalize zaR tag10 g13 0 = tag11 at *; have HN11 := hid hN11.lay; have HOW11 := hid hOW11; clear hg13 hM10 hL10 hN11 hOW11 hK10 hU10 HM9 HOW9 HL9 HCALL2; obtain ⟨vs11, vc11, vf11, vr11, vb11, cvs11, bvs11, hK11, hM11⟩ := HN11.out; obtain ⟨f0, fr, hfol⟩ : ∃ a r, L.follow = a :: r := by
        have h1 := HO.out.lf; have h2 := HO.out.pos; cases hL : L.follow with
        | nil => rw [hL, List.length_nil] at h1; omega
        | cons a r => exact ⟨a, r, rfl⟩
       obtain ⟨gf, capf, hvf, hcf⟩ : ∃ g cap, vf11 = .slice (some ⟨g, 0, none⟩) L.follow.length cap /\ L.follow.length <= cap := by
        rcases zaG hM11.rf with ⟨_, h0⟩ | ⟨g, cap, e, h1, _⟩
        . rw [hfol] at h0; cases h0
        exact ⟨g, cap, e, h1⟩
       have hrf := hM11.rf; rw [hvf] at hrf; have y0 : w11.cell? ⟨gf, 0, none⟩ = some (.int .u64 f0.1) := zax hrf 0 _ (by rw [hfol]; rfl); have y1 : w11.cell? ⟨gf, 1, none⟩ = some (.int .u64 f0.2) := zax hrf 1 _ (by rw [hfol]; rfl); have yA := zab _ _ 0 _ _ _ HOW11.out.ptr.1; have yL := zab _ _ 1 _ _ _ hM11.hl; have y2 := zab _ _ 0 _ _ _ hset; have y3 := zab _ _ 1 _ _ _ hset; simp only [zLa, zLc, zLb] at yA yL y2 y3; rw [hvf] at yL
       have hn0 : (0 : Int) < (L.follow.length : Int) := by rw [hfol, List.length_cons]; omega
       have hn1 : 0 < L.follow.length := by omega
       have HM11 := hid (And.intro hK11 hM11); have HVF := hid (And.intro hvf hrf); have HFO := hid hfol; have HST13 := hid (And.intro hset ht13); have hok : f0.Ok /\ (zam G ls1).Ok := ⟨HO.out.fok f0 (by rw [hfol]; exact List.mem_cons_self ..), zeA (by rw [HG.out]; exact HPG.out) _⟩; have HOK := hid hok; clear hK11 hM11 hvf hrf hset ht13 hok hfol
       go_cut [] from 78 to 90 (fun wx => ∃ tag12, zcC wx tag12 bl bm (adr ++ [ab] ++ ext8) (s1.finish p1) (L.rule ++ List.replicate (s1.cls.length - (s.push ⟨[], 0, false⟩).cls.length) (-1)) (f0.or (zam G ls1) :: fr) /\ LUpd tag11 tag12 w11 wx)
       case first =>
        refine wp_region_noPanic ?_; refine zaA (fun w' => w'.cell? ⟨A, 0, none⟩ = some (zaj bl) /\ w'.cell? ⟨bl, 1, none⟩ = some (.slice (some ⟨gf, 0, none⟩) L.follow.length capf) /\ w'.cell? ⟨gf, 0, none⟩ = some (.int .u64 f0.1) /\ w'.cell? ⟨gf, 1, none⟩ = some (.int .u64 f0.2) /\ w'.cell? ⟨g13, 0, none⟩ = some (.int .u64 (zam G ls1).1) /\ w'.cell? ⟨g13, 1, none⟩ = some (.int .u64 (zam G ls1).2)) 13 (by kernel_rfl) ⟨yA, yL, y0, y1, y2, y3⟩ (fun hS0 => ?_); refine zak 0 hS0 ?_; (try simp only [Act.put, lA, lB, lC]); refine zak 1 hS0 ?_; (try simp only [Act.put, lA, lB, lC]); refine zak 2 hS0 ?_; (try simp only [Act.put, lA, lB, lC]); refine zak 3 hS0 ?_; (try simp only [Act.put, lA, lB, lC]); refine zak 4 hS0 ?_; (try simp only [Act.put, lA, lB, lC]); refine zak 5 hS0 ?_; (try simp only [Act.put, lA, lB, lC]); refine zak 6 hS0 ?_; (try simp only [Act.put, lA, lB, lC]); refine zak 7 hS0 ?_; (try simp only [Act.put, lA, lB, lC]); refine zak 8 hS0 ?_; (try simp only [Act.put, lA, lB, lC]); refine zak 9 hS0 ?_; (try simp only [Act.put, lA, lB, lC]); refine zak 10 hS0 ?_; (try simp only [Act.put, lA, lB, lC]); refine zaq 11 (by rfl) (by kernel_rfl) (fun K hK => ?_); go_simp; go_at_call 59; refine (zi7 f0 (zam G ls1) _ HOK.out.1 HOK.out.2).mono ?_; rintro e w12 ⟨rfl, hb12⟩; simp only [setV]; have lA := zaa HOW11.out.ptr.1; have lL := zaa HM11.out.2.hl; have lgf := (HVF.out.2.lt gf rfl).2; have l13 := zaa HST13.out.1
        have hS12 : w12.cell? ⟨A, 0, none⟩ = some (zaj bl) /\ w12.cell? ⟨bl, 1, none⟩ = some (.slice (some ⟨gf, 0, none⟩) L.follow.length capf) /\ w12.cell? ⟨gf, 0, none⟩ = some (.int .u64 f0.1) /\ w12.cell? ⟨gf, 1, none⟩ = some (.int .u64 f0.2) /\ w12.cell? ⟨g13, 0, none⟩ = some (.int .u64 (zam G ls1).1) /\ w12.cell? ⟨g13, 1, none⟩ = some (.int .u64 (zam G ls1).2) :=
         ⟨(zai hb12 _ lA).trans yA, (zai hb12 _ lL).trans yL, (zai hb12 _ lgf).trans y0, (zai hb12 _ lgf).trans y1, (zai hb12 _ l13).trans y2, (zai hb12 _ l13).trans y3⟩
        refine hK.out _ _ (fun _ => hS12) ?_; clear hK K hS0; have hS0 := hS12; obtain ⟨z0, z1, z2, z3, z4, z5⟩ := hS12; have lg12 : gf < w12.heap.size := zLd lgf hb12.size; have hfz := (show w12.ownsRow 0 147 2 _ _ _ from zaI HVF.out.2 fun g hg => hb12.block g (HVF.out.2.lt g hg).2); have q0 := hfz.frozenAt 0; have q1 := hfz.frozenAt 1; clear hfz; (try simp only [Act.put, lA, lB, lC]); refine zak 12 hS0 ?_; (try simp only [Act.put, lA, lB, lC]); refine zaq 13 (by rfl) (by kernel_rfl) (fun K hK => ?_); go_simp; refine hK.out _ _ (fun h => absurd rfl h) ?_; clear hK K hS0; (try simp only [Act.put, lA, lB, lC]); refine zaP (by kernel_rfl) ?_; refine NoPanic.normal ?_; go_wp2_with (fail); go_meet
        case rel =>
         have hf := zcC.first HM11.out.1 HM11.out.2 (show Below w11.heap.size w11 w12 from ⟨hb12.os, hb12.tape, hb12.output, hb12.size, hb12.block⟩) gf capf HVF.out.1 f0 fr HFO.out (f0.or (zam G ls1)); exact ⟨tag11, hf.1, hf.2⟩
       case rest =>
        obtain ⟨tag12, hL12, hU12⟩ := hcut; have HOW12 := HOW11.out.next hU12; have hcl2 : (s1.finish p1).cls.length = s1.cls.length := rfl; have hst : InSt G f i (s1.finish p1) L3 w A bl bm (adr ++ [ab] ++ ext8) s.cls.length { L with cls := s1.cls, follow := L.follow.modify 0 (Set2.or · (zam G ls1)) } tag12 wc := by
         have e1 : L.follow.modify 0 (Set2.or · (zam G ls1)) = f0.or (zam G ls1) :: fr := by rw [HFO.out]; rfl
         refine ⟨by rw [e1]; exact hL12, HOW12, by have h := HPR.out; rw [HO.out.lb] at h; exact h, HO.out.lr, by rw [List.length_modify]; exact HO.out.lf, ?_, rfl⟩; rw [e1]; intro y hy
         rcases List.mem_cons.1 hy with rfl | hy
         . exact or_ok HOK.out.1 HOK.out.2
         exact HO.out.fok y (by rw [HFO.out]; exact List.mem_cons_of_mem _ hy)
        have hle : s.cls.length <= s1.cls.length := HS1.out.2.2.1.2.1; have HST2 := hid hst; have hadl : (adr ++ [ab] ++ ext8).length = (s1.finish p1).knots.length := by obtain ⟨_, _, _, _, _, _, _, hk, _⟩ := hL12; exact hk.la
        have HADL := hid hadl; clear hst hU12 hL12 HOW12 yA yL y0 y1 y2 y3 hn0 hn1 HM11 HVF HST13 hadl; have hpos := HO.out.pos; go_upto_region 19 with (fail)
        obtain ⟨adr5, hadr5⟩ : ∃ y, y = adr ++ [ab] ++ ext8 := ⟨_, rfl⟩; rw [<- hadr5] at HST2 HADL; have HADR := hid hadr5; clear hadr5; go_loopw [15] (fun s15 wr2 => ∃ (n : Nat) (Ln : Lay) (tagn : Nat -> Nat), s15 = .int .i64 n /\ s.cls.length <= n /\ n <= s1.cls.length /\ InSt G f i (s1.finish p1) L3 w A bl bm adr5 n Ln tagn wr2) (fun s15 _ => s1.cls.length - (RowKit.intOf s15).toNat)
        case atStart => exact ⟨_, _, tag12, rfl, Nat.le_refl _, hle, HST2.out⟩
        case round =>
         obtain ⟨n, Ln, tagn, rfl, hn1, hn2, hI⟩ := hrel; have HI := hid hI; clear hI HST2; obtain ⟨vsn, vcn, vfn, vrn, vbn, cvsn, bvsn, hKn, hMn⟩ := HI.out.lay; have yA := zab _ _ 0 _ _ _ HI.out.own.ptr.1; have yL := zab _ _ 0 _ _ _ hMn.hl; have yM := zab _ _ 1 _ _ _ hMn.hm; have lA := zaa HI.out.own.ptr.1; have lL := zaa hMn.hl; have lM := zaa hMn.hm; simp only [zLa, zLc, zLb] at yA yL yM
         obtain ⟨gc2, capc2, hvc2, hcc2⟩ : ∃ g cap, vcn = .slice (some ⟨g, 0, none⟩) s1.cls.length cap /\ s1.cls.length <= cap := by
          rcases zaG hMn.rc with ⟨_, h0⟩ | ⟨g, cap, e, h1, _⟩
          . have h0' : s1.cls.length = 0 := h0
            omega
          exact ⟨g, cap, e, h1⟩
         rw [hvc2] at yL; have hcmax2 : (s1.cls.length : Int) <= 9223372036854775807 := by
          have : s1.cls.length <= maxLen := by rcases hMn.rc.2 with ⟨_, h⟩ | ⟨_, _, _, _, _, _, h, h', _⟩ <;> (have h2 : (s1.finish p1).cls.length = s1.cls.length := rfl) <;> omega
          unfold maxLen at this; omega
         by_cases hltn : n < s1.cls.length
         . have hzn : (n : Int) < (s1.cls.length : Int) := by omega
           have hblen : (s1.finish p1).behind.length = s1.cls.length := by
            have h := HS1.out.2.2.1.2.2.1; have h2 : (s.push ⟨[], 0, false⟩).cls.length = s.cls.length := rfl; have h3 : (s.push ⟨[], 0, false⟩).behind.length = s.behind.length := rfl; have h4 := HO.out.lb; show s1.behind.length = _; omega
           obtain ⟨j, hj⟩ : ∃ j, (s1.finish p1).behind[n]? = some j := ⟨(s1.finish p1).behind[n], zLe (by omega)⟩; obtain ⟨hja, hjb⟩ := hMn.bb n j (by omega) hj; have hjG : j < (s1.finish p1).knots.length := by rw [<- HADL.out]; exact hja
           obtain ⟨aj, haj⟩ : ∃ y, y = adr5.getD j 0 := ⟨_, rfl⟩; rw [<- haj] at hjb; obtain ⟨gb, capb, hvb⟩ : ∃ g cap, vbn = .slice (some ⟨g, 0, none⟩) s1.cls.length cap := by
            rcases zaG hMn.rb with ⟨_, h0⟩ | ⟨g, cap, e, h1, _⟩
            . omega
            exact ⟨g, cap, by rw [<- hblen]; exact e⟩
           have hrb := hMn.rb; rw [hvb] at hrb yM; have hbj : wr.cell? ⟨gb, n, none⟩ = some (zaj aj) := zax (by rw [hblen] at hrb; exact hrb) n _ hjb; have lgb := (hrb.lt gb rfl).2; have hrest := HI.out.rest; have hdropn : (s1.finish p1).behind.drop n = j :: (s1.finish p1).behind.drop (n + 1) := by rw [List.drop_eq_getElem_cons (by omega)]; congr 1; rw [zLe (by omega)] at hj; exact Option.some.inj hj
           rw [hdropn, zbh] at hrest; cases hdj : dfs G f j [] with
           | none => rw [hdj] at hrest; cases hrest
           | some lj =>
           rw [hdj] at hrest; simp only at hrest; have hpG : ∀ j, zao G j < 128 := by rw [HG.out]; exact HPG.out
           have hdl : lj.length <= 1000000 := by
            have h := zjj (G := (s1.finish p1).knots) hKn.wf (by rw [<- HG.out]; exact hdj) hjG; exact Nat.le_trans h HS1.out.1.2.1
           have hcall := ziP (s1.finish p1).knots HPG.out f j lj wr tagn adr5 vsn (by rw [<- HG.out]; exact hdj) hKn hjG hdl; rw [<- haj, <- HG.out] at hcall; have HCALL3 := hid hcall; have HMN := hid (And.intro hMn hKn); have HREST := hid hrest; clear hcall hMn hKn hrest hdj hdropn hj hja hjb haj hvb hrb hblen hdl hvc2; go_upto_region 22 with (go_at_call 58; refine HCALL3.out.mono ?_; rintro e w10 ⟨rfl, tag10, hK10, hU10⟩; simp only [setV])
           have hM10 := HMN.out.1.keep1 (fun b hb _ h7 => hU10.keep b hb (by omega)) hU10.tags; have hL10 : zcC w10 tag10 bl bm adr5 (s1.finish p1) (Ln.rule ++ List.replicate ((s1.finish p1).cls.length - n) (-1)) Ln.follow := ⟨vsn, vcn, vfn, vrn, vbn, cvsn, bvsn, by rw [HG.out] at hK10; exact hK10, hM10⟩; have hN11 := (show zbU tag10 bl bm w10 (s1.finish p1) (Ln.rule ++ List.replicate ((s1.finish p1).cls.length - n) (-1)) Ln.follow adr5 tag10 w10 from ⟨hL10, LUpd.refl _ _⟩).alloc0 (.cells #[.int .u64 (zam G lj).1, .int .u64 (zam G lj).2] 147)
           have hOW11 := (HI.out.own.next (LUpd.of_d hU10)).next hN11.upd; have hset : (w10.alloc (.cells #[.int .u64 (zam G lj).1, .int .u64 (zam G lj).2] 147)).heap[w10.heap.size]? = some (.cells #[.int .u64 (zam G lj).1, .int .u64 (zam G lj).2] 147 (0, 0)) := by rw [zap, if_pos rfl]
           obtain ⟨g16, hg16⟩ : ∃ y, y = w10.heap.size := ⟨_, rfl⟩; have ht16 : zaR tag10 w10.heap.size 0 g16 = 0 := by rw [hg16]; simp [zaR]
           rw [<- hg16] at hset ht16 ⊢; rw [<- hg16] at hN11 hOW11; generalize w10.alloc (.cells #[.int .u64 (zam G lj).1, .int .u64 (zam G lj).2] 147) = w11b at *; generalize zaR tag10 g16 0 = tag11b at *; have HN16 := hid hN11.lay; have HOW16 := hid hOW11; clear hg16 hM10 hL10 hN11 hOW11 hK10 hU10 HMN HCALL3 yA yL yM lA lL lM hbj lgb; obtain ⟨vs16, vc16, vf16, vr16, vb16, cvs16, bvs16, hK16, hM16⟩ := HN16.out; have hlf := HI.out.lf; obtain ⟨gf2, capf2, hvf2, hcf2⟩ : ∃ g cap, vf16 = .slice (some ⟨g, 0, none⟩) Ln.follow.length cap /\ Ln.follow.length <= cap := by
            rcases zaG hM16.rf with ⟨_, h0⟩ | ⟨g, cap, e, h1, _⟩
            . omega
            exact ⟨g, cap, e, h1⟩
           have hrf2 := hM16.rf; rw [hvf2] at hrf2; have yA := zab _ _ 0 _ _ _ HOW16.out.ptr.1; have yL := zab _ _ 1 _ _ _ hM16.hl; have y2 := zab _ _ 0 _ _ _ hset; have y3 := zab _ _ 1 _ _ _ hset; simp only [zLa, zLc, zLb] at yA yL y2 y3; rw [hvf2] at yL; have HM16 := hid (And.intro hK16 hM16); have HVF2 := hid (And.intro hvf2 hrf2); have HST16 := hid (And.intro hset ht16); have HLF := hid hlf; have hbnf : Ln.follow.length + 1 <= 1000000000 := by
            have h1 : s1.cls.length <= 1000000 := HS1.out.1.2.2; omega
           clear hK16 hM16 hvf2 hrf2 hset ht16 hlf; go_cut [] from 112 to 121 (fun wx => ∃ tagx, zcC wx tagx bl bm adr5 (s1.finish p1) (Ln.rule ++ List.replicate ((s1.finish p1).cls.length - n) (-1)) (Ln.follow ++ [zam G lj]) /\ LUpd tag11b tagx w11b wx)
           case first =>
            refine wp_region_noPanic ?_; refine zaA (fun w' => w'.cell? ⟨A, 0, none⟩ = some (zaj bl) /\ w'.cell? ⟨bl, 1, none⟩ = some (.slice (some ⟨gf2, 0, none⟩) Ln.follow.length capf2) /\ w'.cell? ⟨g16, 0, none⟩ = some (.int .u64 (zam G lj).1) /\ w'.cell? ⟨g16, 1, none⟩ = some (.int .u64 (zam G lj).2)) 10 (by kernel_rfl) ⟨yA, yL, y2, y3⟩ (fun hS0 => ?_); refine zak 0 hS0 ?_; (try simp only [Act.put, lA, lB, lC]); refine zak 1 hS0 ?_; (try simp only [Act.put, lA, lB, lC]); refine zak 2 hS0 ?_; (try simp only [Act.put, lA, lB, lC]); refine zak 3 hS0 ?_; (try simp only [Act.put, lA, lB, lC]); refine zak 4 hS0 ?_; (try simp only [Act.put, lA, lB, lC]); refine zak 5 hS0 ?_; (try simp only [Act.put, lA, lB, lC]); refine zaq 6 (by rfl) (by kernel_rfl) (fun K hK => ?_); go_simp; have lA := zaa HOW16.out.ptr.1; have lL := zaa HM16.out.2.hl; have l16 := zaa HST16.out.1; have hB1 : Below w11b.heap.size w11b (w11b.alloc (.cells #[.int .u64 (zam G lj).1, .int .u64 (zam G lj).2] 147)).drew := ((Below.refl _ w11b).alloc (Nat.le_refl _) _).drew
            have hSa : (w11b.alloc (.cells #[.int .u64 (zam G lj).1, .int .u64 (zam G lj).2] 147)).drew.cell? ⟨A, 0, none⟩ = some (zaj bl) /\ (w11b.alloc (.cells #[.int .u64 (zam G lj).1, .int .u64 (zam G lj).2] 147)).drew.cell? ⟨bl, 1, none⟩ = some (.slice (some ⟨gf2, 0, none⟩) Ln.follow.length capf2) /\ (w11b.alloc (.cells #[.int .u64 (zam G lj).1, .int .u64 (zam G lj).2] 147)).drew.cell? ⟨g16, 0, none⟩ = some (.int .u64 (zam G lj).1) /\ (w11b.alloc (.cells #[.int .u64 (zam G lj).1, .int .u64 (zam G lj).2] 147)).drew.cell? ⟨g16, 1, none⟩ = some (.int .u64 (zam G lj).2) :=
             ⟨(zai hB1 _ lA).trans yA, (zai hB1 _ lL).trans yL, (zai hB1 _ l16).trans y2, (zai hB1 _ l16).trans y3⟩
            refine hK.out _ _ (fun _ => hSa) ?_; clear hK K hS0; (try simp only [Act.put, lA, lB, lC]); refine zaq 7 (by rfl) (by kernel_rfl) (fun K hK => ?_)
            refine zdl (by rfl) _ _ (by rfl) elemSet (.slice (some ⟨gf2, 0, none⟩) Ln.follow.length capf2) Ln.follow.length (setCells Ln.follow) (by rfl) (by exact (HVF2.out.2.alloc _).drew) ⟨w11b.heap.size, 0, none⟩ 1 1 [.int .u64 (zam G lj).1, .int .u64 (zam G lj).2] (by rfl) (by rfl) (zaD w11b #[.int .u64 (zam G lj).1, .int .u64 (zam G lj).2] 147 w11b.heap.size rfl) (by simp [Value.oneCell']) (by decide) hbnf (by decide) ?_; intro v1 w1b hrow1 hgr1 hbl1; obtain ⟨gz, cz, rfl⟩ := zbl hrow1
            have tgf : tag11b gf2 = 6 := HM16.out.2.t6 gf2 (by rw [HVF2.out.1]; rfl); have hk1 : ∀ b, b < w11b.heap.size -> tag11b b ≠ 6 -> w1b.heap[b]? = w11b.heap[b]? := fun b hb ht => (hgr1.block b (zLd hb hB1.size) (fun e => ht (by cases e; exact tgf))).trans (hB1.block b hb); have hc1 : ∀ x : Addr, x.block < w11b.heap.size -> tag11b x.block ≠ 6 -> w1b.cell? x = w11b.cell? x := fun x hb ht => by unfold World.cell?; rw [hk1 _ hb ht]
            have hSb : w1b.cell? ⟨A, 0, none⟩ = some (zaj bl) /\ w1b.cell? ⟨bl, 1, none⟩ = some (.slice (some ⟨gf2, 0, none⟩) Ln.follow.length capf2) /\ w1b.cell? ⟨g16, 0, none⟩ = some (.int .u64 (zam G lj).1) /\ w1b.cell? ⟨g16, 1, none⟩ = some (.int .u64 (zam G lj).2) :=
             ⟨(hc1 ⟨A, 0, none⟩ lA (by rw [HOW16.out.ptr.2]; decide)).trans yA, (hc1 ⟨bl, 1, none⟩ lL (by rw [HM16.out.2.tl]; decide)).trans yL, (hc1 ⟨g16, 0, none⟩ l16 (by rw [HST16.out.2]; decide)).trans y2, (hc1 ⟨g16, 1, none⟩ l16 (by rw [HST16.out.2]; decide)).trans y3⟩
            have hbl9 := (hk1 bl lL (by rw [HM16.out.2.tl]; decide)).trans HM16.out.2.hl; have zf := zae _ _ 1 _ _ hbl9; have zl := zaa hbl9; refine hK.out _ _ (fun _ => hSb) ?_; clear hK K hSa; (try simp only [Act.put, lA, lB, lC]); refine zaq 8 (by rfl) (by kernel_rfl) (fun K hK => ?_); go_simp; refine hK.out _ _ (fun _ => hSb) ?_; clear hK K; (try simp only [Act.put, lA, lB, lC]); refine zaq 9 (by rfl) (by kernel_rfl) (fun K hK => ?_); go_simp; refine hK.out _ _ (fun _ => hSb) ?_; clear hK K; (try simp only [Act.put, lA, lB, lC]); obtain ⟨x0, x1, x2, x3⟩ := hSb
            refine zaq 10 (by rfl) (by kernel_rfl) (fun K hK => ?_); go_simp; refine hK.out _ _ (fun h => absurd rfl h) ?_; clear hK K; (try simp only [Act.put, lA, lB, lC]); refine zaP (by kernel_rfl) ?_; refine NoPanic.normal ?_; go_wp2_with (fail); go_meet
            case rel =>
             obtain ⟨tagx, vx, hAx, hMx⟩ := HM16.out.2.pushFollow (x := zam G lj) (.cells #[.int .u64 (zam G lj).1, .int .u64 (zam G lj).2] 147) HVF2.out.1 hrow1 hgr1 hbl1; exact ⟨tagx, ⟨_, _, _, _, _, _, _, hAx.kat HM16.out.1 (by decide) (by rw [HM16.out.2.tl]; decide), hMx⟩, hAx.lupd (by decide) (by rw [HM16.out.2.tl]; decide)⟩
           case rest =>
            obtain ⟨tagx, hLx, hUx⟩ := hcut; have hOWx := HOW16.out.next hUx; have hnx : (s1.finish p1).cls.length - n = (s1.cls.length - (n + 1)) + 1 := by
             have h2 : (s1.finish p1).cls.length = s1.cls.length := rfl; omega
            have hoj : (zam G lj).Ok := zeA (by rw [HG.out]; exact HPG.out) _; have hwrapn : IntKind.i64.wrap ((n : Int) + 1) = (n : Int) + 1 := IntWalk.i64_in _ (by omega); cases hend : zbZ G lj with
            | false =>
             have hI2 : InSt G f i (s1.finish p1) L3 w A bl bm adr5 (n + 1) { Ln with follow := Ln.follow ++ [zam G lj], rule := Ln.rule ++ [-1] } tagx wc := by
              refine ⟨?_, hOWx, ?_, by simp [HI.out.lr], by simp [HI.out.lf], ?_, HI.out.cls⟩
              . rw [hnx, keep_mid] at hLx; exact hLx
              . have h := HREST.out; rw [hend] at h; exact h
              intro y hy
              rcases List.mem_append.1 hy with h | h
              . exact HI.out.fok y h
              rw [List.mem_singleton] at h; rw [h]; exact hoj
             have HI2 := hid hI2; clear hI2 hLx hUx hOWx hnx hend yA yL y2 y3; go_wp2_with (fail); go_roundw
             case rel => exact ⟨n + 1, _, tagx, by go_num, by omega, by omega, HI2.out⟩
             case measure => (simp [RowKit.intOf] <;> omega)
            | true =>
             obtain ⟨vsx, vcx, vfx, vrx, vbx, cvsx, bvsx, hKx, hMx⟩ := hLx; have hrl : (Ln.rule ++ List.replicate ((s1.finish p1).cls.length - n) (-1)).length = s1.cls.length := by
              rw [List.length_append, List.length_replicate, HI.out.lr]; have h2 : (s1.finish p1).cls.length = s1.cls.length := rfl; omega
             obtain ⟨gx, capx, hvx⟩ : ∃ g cap, vrx = .slice (some ⟨g, 0, none⟩) (Ln.rule ++ List.replicate ((s1.finish p1).cls.length - n) (-1)).length cap := by
              rcases zaG hMx.rr with ⟨_, h0⟩ | ⟨g, cap, e, _, _⟩
              . omega
              exact ⟨g, cap, e⟩
             have hsr := hMx.setRule gx capx n hvx i; have hrr := hMx.rr; rw [hvx] at hrr; have zA := zab _ _ 0 _ _ _ hOWx.ptr.1; have zL := zab _ _ 2 _ _ _ hMx.hl; simp only [zLa, zLc, zLb] at zA zL; rw [hvx, hrl] at zL; have zlA := zaa hOWx.ptr.1; have zlL := zaa hMx.hl; have zlg := (hrr.lt gx rfl).2; have zfr := hrr.frozenAt n; obtain ⟨cr, hcr⟩ : ∃ u, wc.cell? ⟨gx, n, none⟩ = some u := by
              rw [hrr.cellAt n (by rw [hrl]; omega)]; exact ⟨_, zLe (by rw [List.length_map, hrl]; exact hltn)⟩
             have tgx : tagx gx = 4 := hMx.t4 gx (by rw [hvx]; rfl); have hUs : LUpd tagx tagx wc (wc.setCell ⟨gx, n, none⟩ (.int .i64 i)) := ⟨rfl, rfl, rfl, by simp, fun _ _ => rfl, fun b hb ht => zaf _ _ _ _ (fun e => by rw [show b = gx from e, tgx] at ht; omega)⟩; have hI2 : InSt G f i (s1.finish p1) L3 w A bl bm adr5 (n + 1) { Ln with follow := Ln.follow ++ [zam G lj], rule := Ln.rule ++ [(i : Int)] } tagx (wc.setCell ⟨gx, n, none⟩ (.int .i64 i)) := by
              refine ⟨?_, hOWx.next hUs, ?_, by simp [HI.out.lr], by simp [HI.out.lf], ?_, HI.out.cls⟩
              . refine ⟨vsx, vcx, vfx, vrx, vbx, cvsx, bvsx, hKx.apart (fun _ _ => rfl) (fun b hb ht => zaf _ _ _ _ (fun e => by rw [show b = gx from e, tgx] at ht; omega)), ?_⟩
                rw [hnx] at hsr; have e := set_mid Ln.rule (s1.cls.length - (n + 1)) i; rw [HI.out.lr] at e; rw [e] at hsr; exact hsr
              . have h := HREST.out; rw [hend] at h; exact h
              intro y hy
              rcases List.mem_append.1 hy with h | h
              . exact HI.out.fok y h
              rw [List.mem_singleton] at h; rw [h]; exact hoj
             have HI2 := hid hI2; clear hI2 hKx hMx hUx hOWx hnx hend hrl hvx hsr hrr tgx hUs yA yL y2 y3; go_wp2_with (fail); go_roundw
             case rel => exact ⟨n + 1, _, tagx, by go_num, by omega, by omega, HI2.out⟩
             case measure => (simp [RowKit.intOf] <;> omega)
         have hzn : ¬ (n : Int) < (s1.cls.length : Int) := by omega
         have hnl : n = s1.cls.length := by omega
         have hrest := HI.out.rest; have hblen : (s1.finish p1).behind.length = s1.cls.length := by
          have h := HS1.out.2.2.1.2.2.1; have h2 : (s.push ⟨[], 0, false⟩).cls.length = s.cls.length := rfl; have h3 : (s.push ⟨[], 0, false⟩).behind.length = s.behind.length := rfl; have h4 := HO.out.lb; show s1.behind.length = _; omega
         rw [List.drop_eq_nil_of_le (by omega), zbh] at hrest; cases hrest; have hl9 := HI.out.lay; rw [show (s1.finish p1).cls.length - n = 0 from by rw [hnl]; exact Nat.sub_self _, List.replicate_zero, List.append_nil] at hl9; have hO2 : OutSt f trees s2 L2 w A bl bm (i + 1) (s1.finish p1) L3 adr5 tagn wr :=
          ⟨hl9, HI.out.own.upd, HI.out.own.ptr, HI.out.own.err, HI.out.own.at', HRUN2.out, HI.out.cls, by rw [HI.out.lr, hnl]; rfl, by rw [HI.out.lf, hnl]; rfl, hblen, by show 0 < s1.cls.length; omega, HS1.out.2.1.finish p1, HI.out.fok⟩
         have HO2 := hid hO2; have hwrapi : IntKind.i64.wrap ((i : Int) + 1) = (i : Int) + 1 := IntWalk.i64_in _ (by omega); clear hO2 hl9 hblen hKn hMn hnl; go_wp2_with (fail); go_roundw
         case rel => exact ⟨i + 1, _, _, _, _, by go_num, by omega, HO2.out⟩
         case measure => (simp [RowKit.intOf] <;> omega)
    have hz : ¬ (i : Int) < (strs.length : Int) := by omega
    have hil : i = strs.length := by omega
    have hrest := HO.out.rest; rw [List.drop_eq_nil_of_le (by have := HSZ.out.2.2.2; omega), zbS] at hrest; cases hrest; have cA := zab _ _ 0 _ _ _ HO.out.ptr.1; have cB := zab _ _ 0 _ _ _ HO.out.err.1; simp only [zLa, zLb] at cA cB; have fA := zae _ _ 0 _ _ HO.out.ptr.1; have fB := zae _ _ 0 _ _ HO.out.err.1; have lA := zaa HO.out.ptr.1; have lB := zaa HO.out.err.1; have nAB : A ≠ A + 1 := by omega
    clear hil; go_wp2_with (fail); have hbel : Below w.heap.size w wr := ⟨HO.out.upd.os, HO.out.upd.tape, HO.out.upd.output, HO.out.upd.size, fun b hb => HO.out.upd.keep b hb (.inl rfl)⟩; have hAw : w.heap.size <= A := by rw [HA.out]; exact Nat.le_refl _
    have hfin : Below w.heap.size w ((wr.setCell ⟨A, 0, none⟩ (zaj bl)).setCell ⟨A + 1, 0, none⟩ .nilIface) := (hbel.setCell (p := (⟨A, 0, none⟩ : Addr)) hAw _).setCell (p := (⟨A + 1, 0, none⟩ : Addr)) (by show w.heap.size <= A + 1; omega) _; have hA9 : ((wr.setCell ⟨A, 0, none⟩ (zaj bl)).setCell ⟨A + 1, 0, none⟩ .nilIface).heap[A]? = some (.cells #[zaj bl] 88 (0, 0)) := by
     rw [zaf _ _ _ _ (by simp), zac _ A 0 _ _ _ _ HO.out.ptr.1]; rfl
    have hB9 : ((wr.setCell ⟨A, 0, none⟩ (zaj bl)).setCell ⟨A + 1, 0, none⟩ .nilIface).heap[A + 1]? = some (.cells #[.nilIface] 34 (0, 0)) := by
     rw [zac _ (A + 1) 0 _ _ _ _ ((zaf _ _ _ _ (by simp)).trans HO.out.err.1)]; rfl
    have hk9 : ∀ b, b ≠ A -> b ≠ A + 1 -> ((wr.setCell ⟨A, 0, none⟩ (zaj bl)).setCell ⟨A + 1, 0, none⟩ .nilIface).heap[b]? = wr.heap[b]? := fun b h1 h2 => by rw [zaf _ _ _ _ h2, zaf _ _ _ _ h1]
    have hlaid : zeU ((wr.setCell ⟨A, 0, none⟩ (zaj bl)).setCell ⟨A + 1, 0, none⟩ .nilIface) bl L2 := by
     obtain ⟨vs9, vc9, vf9, vr9, vb9, cvs9, bvs9, hK9, hM9⟩ := HO.out.lay; have tn : ∀ b c, tag b = c -> c ≠ 0 -> b ≠ A /\ b ≠ A + 1 := fun b c h hc => ⟨fun e => by rw [e, HO.out.ptr.2] at h; exact hc h.symm, fun e => by rw [e, HO.out.err.2] at h; exact hc h.symm⟩; refine ⟨vc9, vf9, vr9, cvs9, (hk9 bl (tn bl 1 hM9.tl (by decide)).1 (tn bl 1 hM9.tl (by decide)).2).trans hM9.hl, ?_, fun i c hc => ?_, ?_, ?_⟩
     . rw [HO.out.cls]; exact zaI hM9.rc fun g hg => hk9 g (tn g 3 (hM9.t3 g hg) (by decide)).1 (tn g 3 (hM9.t3 g hg) (by decide)).2
     . rw [HO.out.cls] at hc
       obtain ⟨cv, k1, k2, k3⟩ := hM9.cc i c hc; exact ⟨cv, k1, zaI k2 fun g hg => hk9 g (tn g 7 (k3 g hg) (by decide)).1 (tn g 7 (k3 g hg) (by decide)).2⟩
     . exact zaI hM9.rr fun g hg => hk9 g (tn g 4 (hM9.t4 g hg) (by decide)).1 (tn g 4 (hM9.t4 g hg) (by decide)).2
     exact zaI hM9.rf fun g hg => hk9 g (tn g 6 (hM9.t6 g hg) (by decide)).1 (tn g 6 (hM9.t6 g hg) (by decide)).2
    generalize (wr.setCell ⟨A, 0, none⟩ (zaj bl)).setCell ⟨A + 1, 0, none⟩ .nilIface = w9 at *; refine leaves_cons (f := 55) (args := #[.pointer (some ⟨A + 1 + 1, 0, none⟩), .pointer (some ⟨A, 0, none⟩), .pointer (some ⟨A + 1, 0, none⟩)]) (by simp) (by simp [go_sem]) ?_; refine (lay_idle ⟨A + 1 + 1, 0, none⟩ ⟨A, 0, none⟩ ⟨A + 1, 0, none⟩ w9).mono ?_; rintro r' u' w5 ⟨rfl, rfl, rfl⟩; have ca5 := zab w5 _ 0 _ _ _ hA9; have cb5 := zab w5 _ 0 _ _ _ hB9; simp at ca5 cb5; simp [Leaves, settle, results, Tryz.results33, go_sem, ca5, cb5]; exact ⟨hlaid, hfin⟩
end Go.Proofs.YtghpmhllpaheiaaGreatDoor
