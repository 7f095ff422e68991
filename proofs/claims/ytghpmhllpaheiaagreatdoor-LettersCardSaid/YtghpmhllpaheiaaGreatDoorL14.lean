/-
  Part of the proof: Lay2, Rea1, Rea2. No condition beyond those in the statements.
-/
import Derived.Test.YtghpmhllpaheiaaGreatDoorL10
import Derived.Test.YtghpmhllpaheiaaGreatDoorL13
set_option linter.unusedVariables false
set_option linter.unusedSimpArgs false
set_option maxRecDepth 100000
set_option maxHeartbeats 4000000
namespace Go.Proofs.YtghpmhllpaheiaaGreatDoor
section
open Go.RowKit Go.Lib
theorem elemClass : zcp Tryz.prog 129 200 1 24 := zcp.of (z := .slice none 0 0) Tryz.underlying129 (by kernel_rfl) rfl (by decide)
theorem elemInt : zcp Tryz.prog 39 3 1 8 := zcp.of (z := .int .i64 0) Tryz.underlying39 (by kernel_rfl) rfl (by decide)
theorem zcl : zcp Tryz.prog 134 141 1 8 := zcp.of (z := .pointer none) Tryz.underlying134 (by kernel_rfl) rfl (by decide)
theorem elemSet : zcp Tryz.prog 130 147 2 16 := zcp.of (z := .agg #[.int .u64 0, .int .u64 0]) Tryz.underlying130 (by kernel_rfl) rfl (by decide)
def setCells (l : List Set2) : List Value := l.flatMap fun s => [.int .u64 s.1, .int .u64 s.2]
structure MAt (w : World) (tag : Nat -> Nat) (bl bm : Nat) (cls : List (List (Int × Int))) (rule : List Int) (follow : List Set2) (adr behind : List Nat) (vc vf vr vb : Value) (cvs bvs : List Value) : Prop where
 hl : w.heap[bl]? = some (.cells #[vc, vf, vr] 132 (0, 0))
 hm : w.heap[bm]? = some (.cells #[zaj bl, vb] 136 (0, 0))
 tl : tag bl = 1
 tm : tag bm = 2
 rc : w.ownsRow 0 200 1 vc cls.length cvs
 cc : ∀ (i : Nat) (c : List (Int × Int)), cls[i]? = some c -> ∃ cv, cvs[i]? = some cv /\ zbq w cv c /\ ∀ g, cv.ownBlock = some g -> tag g = 7
 rr : w.ownsRow 0 3 1 vr rule.length (rule.map (Value.int .i64))
 rf : w.ownsRow 0 147 2 vf follow.length (setCells follow)
 rb : w.ownsRow 0 141 1 vb behind.length bvs
 bb : ∀ (i j : Nat), 0 < i -> behind[i]? = some j -> j < adr.length /\ bvs[i]? = some (zaj (adr.getD j 0))
 t3 : ∀ g, vc.ownBlock = some g -> tag g = 3
 t4 : ∀ g, vr.ownBlock = some g -> tag g = 4
 t5 : ∀ g, vb.ownBlock = some g -> tag g = 5
 t6 : ∀ g, vf.ownBlock = some g -> tag g = 6
theorem MAt.apart {w w' : World} {tag tag' : Nat -> Nat} {bl bm : Nat} {cls : List (List (Int × Int))} {rule : List Int} {follow : List Set2} {adr behind ext : List Nat} {vc vf vr vb : Value} {cvs bvs : List Value}
 (h : MAt w tag bl bm cls rule follow adr behind vc vf vr vb cvs bvs) (hu : KUpd tag tag' w w') : MAt w' tag' bl bm cls rule follow (adr ++ ext) behind vc vf vr vb cvs bvs := by
 have own : ∀ {v : Value} {e : TypeId} {size n : Nat} {xs : List Value} {c : Nat}, w.ownsRow 0 e size v n xs -> (∀ g, v.ownBlock = some g -> tag g = c) -> c < 10 -> w'.ownsRow 0 e size v n xs :=
  fun hr ht hc => zaI hr fun g hg => hu.keep g (hr.lt g hg).2 (by rw [ht g hg]; exact hc)
 have tg : ∀ {v : Value} {e : TypeId} {size n : Nat} {xs : List Value} {c : Nat}, w.ownsRow 0 e size v n xs -> (∀ g, v.ownBlock = some g -> tag g = c) -> ∀ g, v.ownBlock = some g -> tag' g = c :=
  fun hr ht g hg => (hu.tags g (hr.lt g hg).2).trans (ht g hg)
 refine ⟨?_, ?_, ?_, ?_, own h.rc h.t3 (by decide), ?_, own h.rr h.t4 (by decide), own h.rf h.t6 (by decide), own h.rb h.t5 (by decide), ?_, tg h.rc h.t3, tg h.rr h.t4, tg h.rb h.t5, tg h.rf h.t6⟩
 . exact (hu.keep bl (zaa h.hl) (by rw [h.tl]; decide)).trans h.hl
 . exact (hu.keep bm (zaa h.hm) (by rw [h.tm]; decide)).trans h.hm
 . exact (hu.tags bl (zaa h.hl)).trans h.tl
 . exact (hu.tags bm (zaa h.hm)).trans h.tm
 . intro i c hc
   obtain ⟨cv, h1, h2, h3⟩ := h.cc i c hc; exact ⟨cv, h1, own h2 h3 (by decide), tg h2 h3⟩
 intro i j hi hj
 obtain ⟨h1, h2⟩ := h.bb i j hi hj; exact ⟨by simp; omega, by rw [zas h1]; exact h2⟩
structure AUpd (tag tag' : Nat -> Nat) (c b : Nat) (w w' : World) : Prop where
 os : w'.os = w.os
 tape : w'.tape = w.tape
 output : w'.output = w.output
 size : w.heap.size <= w'.heap.size
 tags : ∀ x, x < w.heap.size -> tag' x = tag x
 keep : ∀ x, x < w.heap.size -> tag x ≠ c -> x ≠ b -> w'.heap[x]? = w.heap[x]?
theorem zcK {w w2 : World} {tag : Nat -> Nat} {e : TypeId} {size n m : Nat} {v v' : Value} {xs news : List Value} {c b off : Nat} {cells : Array Value} {t : TypeId} (ob : Obj)
 (hb : w.heap[b]? = some (.cells cells t (0, 0))) (hcb : tag b ≠ c) (hv : ∀ g, v.ownBlock = some g -> g < w.heap.size /\ tag g = c)
 (hrow : w2.ownsRow 0 e size v' (n + m) (xs ++ news)) (hg : (w.alloc ob).grownBy w2 v.ownBlock) (hbl : v'.ownBlock = v.ownBlock \/ v'.ownBlock = some (w.alloc ob).heap.size) :
 ∃ tag', AUpd tag tag' c b w (w2.setCell ⟨b, off, none⟩ v') /\ (w2.setCell ⟨b, off, none⟩ v').heap[b]? = some (.cells (cells.setIfInBounds off v') t (0, 0)) /\
  (w2.setCell ⟨b, off, none⟩ v').ownsRow 0 e size v' (n + m) (xs ++ news) /\ (∀ g, v'.ownBlock = some g -> tag' g = c) := by
 have hB := (Below.refl w.heap.size w).alloc (Nat.le_refl _) ob; have hlb := zaa hb; have hs1 : (w.alloc ob).heap.size = w.heap.size + 1 := by simp
 have hsz : w.heap.size + 1 <= w2.heap.size := by rw [<- hs1]; exact hg.size
 have hv2 : ∀ g, v'.ownBlock = some g -> (g < w.heap.size /\ tag g = c) \/ g = w.heap.size + 1 := by
  intro g hgv
  rcases hbl with e | e
  . exact .inl (hv g (by rw [<- e]; exact hgv))
  rw [hgv] at e; cases e; exact .inr hs1
 have hkeep : ∀ x, x < w.heap.size -> tag x ≠ c -> x ≠ b -> (w2.setCell ⟨b, off, none⟩ v').heap[x]? = w.heap[x]? := by
  intro x hx hc hxb; rw [zaf _ _ _ _ hxb]; exact (hg.block x (zLd hx hB.size) (fun e => hc (hv x e.symm).2)).trans (hB.block x hx)
 have hb2 : w2.heap[b]? = some (.cells cells t (0, 0)) := (hg.block b (zLd hlb hB.size) (fun e => hcb (hv b e.symm).2)).trans ((hB.block b hlb).trans hb); refine ⟨zaR tag (w.heap.size + 1) c, ⟨hg.os.trans hB.os, hg.tape.trans hB.tape, hg.output.trans hB.output, by simp; omega, fun x hx => zaM (by omega), hkeep⟩, zac w2 b off v' _ _ _ hb2, ?_, ?_⟩
 . refine zaI hrow fun g hgv => zaf _ _ _ _ ?_
   intro e; have e2 : g = b := e
   rcases hv2 g hgv with ⟨h1, h2⟩ | h1
   . rw [e2] at h2; exact hcb h2
   omega
 intro g hgv
 rcases hv2 g hgv with ⟨h1, h2⟩ | h1
 . rw [zaM (by omega)]; exact h2
 rw [h1, zch]
theorem AUpd.row {tag tag' : Nat -> Nat} {c b : Nat} {w w' : World} (h : AUpd tag tag' c b w w') {v : Value} {e : TypeId} {size n : Nat} {xs : List Value} {d : Nat} (hr : w.ownsRow 0 e size v n xs) (ht : ∀ g, v.ownBlock = some g -> tag g = d) (hd : d ≠ c) (hb : tag b ≠ d) :
 w'.ownsRow 0 e size v n xs /\ ∀ g, v.ownBlock = some g -> tag' g = d :=
 ⟨zaI hr fun g hg => h.keep g (hr.lt g hg).2 (by rw [ht g hg]; exact hd) (fun e => hb (by rw [<- e]; exact ht g hg)), fun g hg => (h.tags g (hr.lt g hg).2).trans (ht g hg)⟩
theorem AUpd.blk {tag tag' : Nat -> Nat} {c b : Nat} {w w' : World} (h : AUpd tag tag' c b w w') {x : Nat} {o : Obj} (hx : w.heap[x]? = some o) (hc : tag x ≠ c) (hb : x ≠ b) : w'.heap[x]? = some o /\ tag' x = tag x :=
 ⟨(h.keep x (zaa hx) hc hb).trans hx, h.tags x (zaa hx)⟩
section
variable {w w' : World} {tag tag' : Nat -> Nat} {bl bm : Nat} {cls : List (List (Int × Int))} {rule : List Int} {follow : List Set2} {adr behind : List Nat} {vc vf vr vb : Value} {cvs bvs : List Value}
theorem MAt.addClass (h : MAt w tag bl bm cls rule follow adr behind vc vf vr vb cvs bvs) (hu : AUpd tag tag' 3 bl w w') (v' cv : Value) (c : List (Int × Int)) (hl : w'.heap[bl]? = some (.cells #[v', vf, vr] 132 (0, 0)))
 (hrow : w'.ownsRow 0 200 1 v' (cls.length + 1) (cvs ++ [cv])) (ht : ∀ g, v'.ownBlock = some g -> tag' g = 3) (hcv : zbq w cv c) (htc : ∀ g, cv.ownBlock = some g -> tag g = 7) :
 MAt w' tag' bl bm (cls ++ [c]) rule follow adr behind v' vf vr vb (cvs ++ [cv]) bvs := by
 have hne : bm ≠ bl := fun e => by have := h.tm; rw [e, h.tl] at this; cases this
 have b2 := hu.blk h.hm (by rw [h.tm]; decide) hne; have r4 := hu.row h.rr h.t4 (by decide) (by rw [h.tl]; decide); have r5 := hu.row h.rb h.t5 (by decide) (by rw [h.tl]; decide); have r6 := hu.row h.rf h.t6 (by decide) (by rw [h.tl]; decide); have cl : cvs.length = cls.length := by have := h.rc.1; simpa using this
 refine ⟨hl, b2.1, (hu.tags bl (zaa h.hl)).trans h.tl, b2.2.trans h.tm, by simpa using hrow, ?_, r4.1, r6.1, r5.1, h.bb, ht, r4.2, r5.2, r6.2⟩; intro i x hx
 rcases Nat.lt_or_ge i cls.length with hi | hi
 . rw [List.getElem?_append_left hi] at hx
   obtain ⟨cv0, h1, h2, h3⟩ := h.cc i x hx; have r := hu.row h2 h3 (by decide) (by rw [h.tl]; decide); exact ⟨cv0, by rw [List.getElem?_append_left (by rw [cl]; exact hi)]; exact h1, r.1, r.2⟩
 rw [List.getElem?_append_right hi] at hx
 have hi2 : i = cls.length := by
  rcases Nat.lt_or_ge (i - cls.length) 1 with h1 | h1
  . omega
  rw [List.getElem?_eq_none (by simpa using h1)] at hx; cases hx
 subst hi2; simp at hx; subst hx; have r := hu.row hcv htc (by decide) (by rw [h.tl]; decide); exact ⟨cv, by rw [<- cl]; simp, r.1, r.2⟩
theorem MAt.addRule (h : MAt w tag bl bm cls rule follow adr behind vc vf vr vb cvs bvs) (hu : AUpd tag tag' 4 bl w w') (v' : Value) (x : Int) (hl : w'.heap[bl]? = some (.cells #[vc, vf, v'] 132 (0, 0)))
 (hrow : w'.ownsRow 0 3 1 v' (rule.length + 1) (rule.map (Value.int .i64) ++ [.int .i64 x])) (ht : ∀ g, v'.ownBlock = some g -> tag' g = 4) :
 MAt w' tag' bl bm cls (rule ++ [x]) follow adr behind vc vf v' vb cvs bvs := by
 have hne : bm ≠ bl := fun e => by have := h.tm; rw [e, h.tl] at this; cases this
 have b2 := hu.blk h.hm (by rw [h.tm]; decide) hne; have r3 := hu.row h.rc h.t3 (by decide) (by rw [h.tl]; decide); have r5 := hu.row h.rb h.t5 (by decide) (by rw [h.tl]; decide); have r6 := hu.row h.rf h.t6 (by decide) (by rw [h.tl]; decide); refine ⟨hl, b2.1, (hu.tags bl (zaa h.hl)).trans h.tl, b2.2.trans h.tm, r3.1, ?_, by simpa using hrow, r6.1, r5.1, h.bb, r3.2, ht, r5.2, r6.2⟩; intro i y hy; obtain ⟨cv0, h1, h2, h3⟩ := h.cc i y hy; have r := hu.row h2 h3 (by decide) (by rw [h.tl]; decide); exact ⟨cv0, h1, r.1, r.2⟩
theorem MAt.addBehind (h : MAt w tag bl bm cls rule follow adr behind vc vf vr vb cvs bvs) (hu : AUpd tag tag' 5 bm w w') (v' : Value) (j : Nat) (hj : j < adr.length) (hm : w'.heap[bm]? = some (.cells #[zaj bl, v'] 136 (0, 0)))
 (hrow : w'.ownsRow 0 141 1 v' (behind.length + 1) (bvs ++ [zaj (adr.getD j 0)])) (ht : ∀ g, v'.ownBlock = some g -> tag' g = 5) :
 MAt w' tag' bl bm cls rule follow adr (behind ++ [j]) vc vf vr v' cvs (bvs ++ [zaj (adr.getD j 0)]) := by
 have hne : bl ≠ bm := fun e => by have := h.tm; rw [<- e, h.tl] at this; cases this
 have b1 := hu.blk h.hl (by rw [h.tl]; decide) hne; have r3 := hu.row h.rc h.t3 (by decide) (by rw [h.tm]; decide); have r4 := hu.row h.rr h.t4 (by decide) (by rw [h.tm]; decide); have r6 := hu.row h.rf h.t6 (by decide) (by rw [h.tm]; decide); have bl' : bvs.length = behind.length := by have := h.rb.1; simpa using this
 refine ⟨b1.1, hm, b1.2.trans h.tl, (hu.tags bm (zaa h.hm)).trans h.tm, r3.1, ?_, r4.1, r6.1, by simpa using hrow, ?_, r3.2, r4.2, ht, r6.2⟩
 . intro i y hy
   obtain ⟨cv0, h1, h2, h3⟩ := h.cc i y hy; have r := hu.row h2 h3 (by decide) (by rw [h.tm]; decide); exact ⟨cv0, h1, r.1, r.2⟩
 intro i k hi hk
 rcases Nat.lt_or_ge i behind.length with hl | hl
 . rw [List.getElem?_append_left hl] at hk
   obtain ⟨h1, h2⟩ := h.bb i k hi hk; exact ⟨h1, by rw [List.getElem?_append_left (by rw [bl']; exact hl)]; exact h2⟩
 rw [List.getElem?_append_right hl] at hk
 have hi2 : i = behind.length := by
  rcases Nat.lt_or_ge (i - behind.length) 1 with h1 | h1
  . omega
  rw [List.getElem?_eq_none (by simpa using h1)] at hk; cases hk
 subst hi2; simp at hk; subst hk; exact ⟨hj, by rw [<- bl']; simp⟩
theorem MAt.pushClass (h : MAt w tag bl bm cls rule follow adr behind vc vf vr vb cvs bvs) {w1 : World} {V v' cv : Value} {c : List (Int × Int)} (ob : Obj) (hV : vc = V) (hcv : zbq w cv c) (htc : ∀ g, cv.ownBlock = some g -> tag g = 7)
 (hrow : w1.ownsRow 0 200 1 v' (cls.length + 1) (cvs ++ [cv])) (hg : (w.alloc ob).drew.grownBy w1 V.ownBlock) (hbl : v'.ownBlock = V.ownBlock \/ v'.ownBlock = some (w.alloc ob).drew.heap.size) :
 ∃ tag1 v1, AUpd tag tag1 3 bl w (w1.setCell ⟨bl, 0, none⟩ v') /\ MAt (w1.setCell ⟨bl, 0, none⟩ v') tag1 bl bm (cls ++ [c]) rule follow adr behind v1 vf vr vb (cvs ++ [cv]) bvs := by
 subst hV; obtain ⟨tag1, hA, hb', hr', ht'⟩ := zcK (tag := tag) (c := 3) (b := bl) (off := 0) ob h.hl (by rw [h.tl]; decide) (fun g hgv => ⟨(h.rc.lt g hgv).2, h.t3 g hgv⟩) hrow ⟨hg.os, hg.tape, hg.output, hg.size, hg.block⟩ hbl; exact ⟨tag1, v', hA, h.addClass hA v' cv c hb' hr' ht' hcv htc⟩
theorem MAt.pushRule (h : MAt w tag bl bm cls rule follow adr behind vc vf vr vb cvs bvs) {w1 : World} {V v' : Value} {x : Int} (ob : Obj) (hV : vr = V)
 (hrow : w1.ownsRow 0 3 1 v' (rule.length + 1) (rule.map (Value.int .i64) ++ [.int .i64 x])) (hg : (w.alloc ob).drew.grownBy w1 V.ownBlock) (hbl : v'.ownBlock = V.ownBlock \/ v'.ownBlock = some (w.alloc ob).drew.heap.size) :
 ∃ tag1 v1, AUpd tag tag1 4 bl w (w1.setCell ⟨bl, 2, none⟩ v') /\ MAt (w1.setCell ⟨bl, 2, none⟩ v') tag1 bl bm cls (rule ++ [x]) follow adr behind vc vf v1 vb cvs bvs := by
 subst hV; obtain ⟨tag1, hA, hb', hr', ht'⟩ := zcK (tag := tag) (c := 4) (b := bl) (off := 2) ob h.hl (by rw [h.tl]; decide) (fun g hgv => ⟨(h.rr.lt g hgv).2, h.t4 g hgv⟩) hrow ⟨hg.os, hg.tape, hg.output, hg.size, hg.block⟩ hbl; exact ⟨tag1, v', hA, h.addRule hA v' x hb' hr' ht'⟩
theorem MAt.pushBehind (h : MAt w tag bl bm cls rule follow adr behind vc vf vr vb cvs bvs) {w1 : World} {V v' : Value} {j : Nat} (hj : j < adr.length) (ob : Obj) (hV : vb = V)
 (hrow : w1.ownsRow 0 141 1 v' (behind.length + 1) (bvs ++ [zaj (adr.getD j 0)])) (hg : (w.alloc ob).grownBy w1 V.ownBlock) (hbl : v'.ownBlock = V.ownBlock \/ v'.ownBlock = some (w.alloc ob).heap.size) :
 ∃ tag1 v1, AUpd tag tag1 5 bm w (w1.setCell ⟨bm, 1, none⟩ v') /\ MAt (w1.setCell ⟨bm, 1, none⟩ v') tag1 bl bm cls rule follow adr (behind ++ [j]) vc vf vr v1 cvs (bvs ++ [zaj (adr.getD j 0)]) := by
 subst hV; obtain ⟨tag1, hA, hb', hr', ht'⟩ := zcK (tag := tag) (c := 5) (b := bm) (off := 1) ob h.hm (by rw [h.tm]; decide) (fun g hgv => ⟨(h.rb.lt g hgv).2, h.t5 g hgv⟩) hrow hg hbl; exact ⟨tag1, v', hA, h.addBehind hA v' j hj hb' hr' ht'⟩
end
theorem zcq {w w1 : World} {ob : Obj} {row : Option Nat} {b off : Nat} {c : Array Value} {t : TypeId} (hb : w.heap[b]? = some (.cells c t (0, 0))) (hne : row ≠ some b) (hg : (w.alloc ob).grownBy w1 row) :
 w1.cell? ⟨b, off, none⟩ = c[off]? /\ w1.frozen? ⟨b, off, none⟩ = false /\ b < w1.heap.size := by
 have hB := (Below.refl w.heap.size w).alloc (Nat.le_refl _) ob; have k := (hg.block b (zLd (zaa hb) hB.size) (fun e => hne e.symm)).trans ((hB.block _ (zaa hb)).trans hb); exact ⟨zab w1 b off _ _ _ k, zae w1 b off _ _ k, zaa k⟩
end
section
open Go.RowKit Go.Lib
abbrev zjy (qa ea sa wa : Nat) : Value := .func (Fn.func 81) #[] #[zaj qa, zaj ea, zaj sa, zaj wa]
theorem row_succ2 {w : World} {e : TypeId} {size : Nat} {v : Value} {n : Nat} {xs : List Value} (h : w.ownsRow 0 e size v (n + 1) xs) : ∃ g cap, v = .slice (some ⟨g, 0, none⟩) (n + 1) cap := by
 rcases zaG h with ⟨_, h0⟩ | ⟨g, cap, e, _⟩
 . omega
 exact ⟨g, cap, e⟩
structure RAt (w : World) (tag : Nat -> Nat) (qa ea sa wa : Nat) (adr : List Nat) (l : List Nat) (E : Bool) (S : Set2) (qv : Value) : Prop where
 hq : w.heap[qa]? = some (.cells #[qv] 134 (0, 0))
 rq : w.ownsRow 0 141 1 qv l.length (l.map fun j => zaj (adr.getD j 0))
 he : w.heap[ea]? = some (.cells #[.bool E] 4 (0, 0))
 hs : zcN w sa S
 hw : w.heap[wa]? = some (.cells #[zjy qa ea sa wa] 207 (0, 0))
 tq : tag qa = 8
 te : tag ea = 8
 ts : tag sa = 8
 tw : tag wa = 8
 ne : qa ≠ ea /\ qa ≠ sa /\ qa ≠ wa /\ ea ≠ sa /\ ea ≠ wa /\ sa ≠ wa
 t9 : ∀ g, qv.ownBlock = some g -> tag g = 9
structure DUpd (tag tag' : Nat -> Nat) (w w' : World) : Prop where
 os : w'.os = w.os
 tape : w'.tape = w.tape
 output : w'.output = w.output
 size : w.heap.size <= w'.heap.size
 tags : ∀ b, b < w.heap.size -> tag' b = tag b
 keep : ∀ b, b < w.heap.size -> tag b < 8 -> w'.heap[b]? = w.heap[b]?
theorem DUpd.refl (tag : Nat -> Nat) (w : World) : DUpd tag tag w w := ⟨rfl, rfl, rfl, Nat.le_refl _, fun _ _ => rfl, fun _ _ _ => rfl⟩
theorem DUpd.trans {t1 t2 t3 : Nat -> Nat} {a b c : World} (h : DUpd t1 t2 a b) (k : DUpd t2 t3 b c) : DUpd t1 t3 a c :=
 ⟨k.os.trans h.os, k.tape.trans h.tape, k.output.trans h.output, Nat.le_trans h.size k.size, fun x hx => (k.tags x (zLd hx h.size)).trans (h.tags x hx),
  fun x hx ht => (k.keep x (zLd hx h.size) (by rw [h.tags x hx]; exact ht)).trans (h.keep x hx ht)⟩
structure SUpd (tag tag' : Nat -> Nat) (w w' : World) : Prop where
 os : w'.os = w.os
 tape : w'.tape = w.tape
 output : w'.output = w.output
 size : w.heap.size <= w'.heap.size
 tags : ∀ b, b < w.heap.size -> tag' b = tag b
 keep : ∀ b, b < w.heap.size -> tag b ≠ 8 -> tag b ≠ 9 -> w'.heap[b]? = w.heap[b]?
theorem SUpd.d {tag tag' : Nat -> Nat} {w w' : World} (h : SUpd tag tag' w w') : DUpd tag tag' w w' := ⟨h.os, h.tape, h.output, h.size, h.tags, fun b hb ht => h.keep b hb (by omega) (by omega)⟩
theorem SUpd.net {tag tag' : Nat -> Nat} {w w' : World} (h : SUpd tag tag' w w') {adr : List Nat} {vs : List Value} {G : List Knot} {seen : Nat -> Bool} (hK : KAt w tag adr vs G seen) : KAt w' tag' adr vs G seen :=
 hK.apart h.tags fun b hb ht => h.keep b hb (by omega) (by omega)
theorem KAt.congr {w : World} {tag : Nat -> Nat} {adr : List Nat} {vs : List Value} {G : List Knot} {seen seen' : Nat -> Bool} (h : KAt w tag adr vs G seen) (e : ∀ i, i < G.length -> seen i = seen' i) : KAt w tag adr vs G seen' :=
 ⟨h.la, h.lv, fun i hi => by rw [<- e i hi]; exact h.cell i hi, h.row, h.ta, h.tv, h.wf⟩
theorem KAt.mark {w : World} {tag : Nat -> Nat} {adr : List Nat} {vs : List Value} {G : List Knot} {seen : Nat -> Bool} (h : KAt w tag adr vs G seen) (k : Nat) (hk : k < G.length) (b : Bool) :
 KAt (w.setCell ⟨adr.getD k 0, 3, none⟩ (.bool b)) tag adr vs G (fun i => if i = k then b else seen i) := by
 have inj : ∀ i j, i < G.length -> j < G.length -> adr.getD i 0 = adr.getD j 0 -> i = j := by
  intro i j hi hj e; have h1 := h.ta i hi; have h2 := h.ta j hj; rw [e, h2] at h1; omega
 refine ⟨h.la, h.lv, fun i hi => ?_, fun i hi => ?_, h.ta, h.tv, h.wf⟩
 . by_cases e : i = k
   . subst e
     rw [zac w _ 3 _ _ _ _ (h.cell i hi), if_pos rfl]; rfl
   rw [zaf _ _ _ _ (fun e2 => e (inj i k hi hk e2)), if_neg e]
   exact h.cell i hi
 refine zaI (h.row i hi) fun g hg => zaf _ _ _ _ ?_
 intro e; have h1 := h.tv i g hi hg; have h2 := h.ta k hk; rw [show g = adr.getD k 0 from e, h2] at h1; omega
theorem DUpd.mark {w : World} {tag : Nat -> Nat} {adr : List Nat} {vs : List Value} {G : List Knot} {seen : Nat -> Bool} (h : KAt w tag adr vs G seen) (k : Nat) (hk : k < G.length) (v : Value) (o : Nat) : DUpd tag tag w (w.setCell ⟨adr.getD k 0, o, none⟩ v) :=
 ⟨rfl, rfl, rfl, by simp, fun _ _ => rfl, fun b hb ht => zaf _ _ _ _ (fun e => by have := h.ta k hk; rw [<- show b = adr.getD k 0 from e] at this; omega)⟩
section
variable {w w2 : World} {tag tag' : Nat -> Nat} {qa ea sa wa : Nat} {adr l : List Nat} {E : Bool} {S : Set2} {qv : Value}
theorem RAt.other (h : RAt w tag qa ea sa wa adr l E S qv) (b o : Nat) (v : Value) (hb : 10 <= tag b) : RAt (w.setCell ⟨b, o, none⟩ v) tag qa ea sa wa adr l E S qv := by
 have k : ∀ c, tag c < 10 -> (w.setCell ⟨b, o, none⟩ v).heap[c]? = w.heap[c]? := fun c hc => zaf _ _ _ _ (fun e => by rw [show c = b from e] at hc; omega); exact ⟨(k _ (by rw [h.tq]; decide)).trans h.hq, zaI h.rq fun g hg => k g (by rw [h.t9 g hg]; decide), (k _ (by rw [h.te]; decide)).trans h.he, (k _ (by rw [h.ts]; decide)).trans h.hs, (k _ (by rw [h.tw]; decide)).trans h.hw, h.tq, h.te, h.ts, h.tw, h.ne, h.t9⟩
theorem RAt.push (h : RAt w tag qa ea sa wa adr l E S qv) (k : Nat) (E' : Bool) (ob : Obj) (v' : Value) (hrow : w2.ownsRow 0 141 1 v' (l.length + 1) ((l.map fun j => zaj (adr.getD j 0)) ++ [zaj (adr.getD k 0)]))
 (hg : (w.alloc ob).grownBy w2 qv.ownBlock) (hbl : v'.ownBlock = qv.ownBlock \/ v'.ownBlock = some (w.alloc ob).heap.size) :
 ∃ tag', SUpd tag tag' w ((w2.setCell ⟨qa, 0, none⟩ v').setCell ⟨ea, 0, none⟩ (.bool E')) /\ RAt ((w2.setCell ⟨qa, 0, none⟩ v').setCell ⟨ea, 0, none⟩ (.bool E')) tag' qa ea sa wa adr (l ++ [k]) E' S v' := by
 obtain ⟨tag', hA, hb', hr', ht'⟩ := zcK (tag := tag) (c := 9) (b := qa) (off := 0) ob h.hq (by rw [h.tq]; decide) (fun g hgv => ⟨(h.rq.lt g hgv).2, h.t9 g hgv⟩) hrow hg hbl; generalize w2.setCell ⟨qa, 0, none⟩ v' = w3 at hA hb' hr' ⊢; obtain ⟨n1, n2, n3, n4, n5, n6⟩ := h.ne; have be := hA.blk h.he (by rw [h.te]; decide) (Ne.symm n1); have bs := hA.blk h.hs (by rw [h.ts]; decide) (Ne.symm n2); have bw := hA.blk h.hw (by rw [h.tw]; decide) (Ne.symm n3); have tq' := (hA.tags qa (zaa h.hq)).trans h.tq
 refine ⟨tag', ⟨hA.os, hA.tape, hA.output, by simpa using hA.size, hA.tags, fun b hb h8 h9 => ?_⟩, ⟨?_, ?_, ?_, ?_, ?_, tq', be.2.trans h.te, bs.2.trans h.ts, bw.2.trans h.tw, h.ne, ht'⟩⟩
 . rw [zaf _ _ _ _ (fun e => h8 (by rw [show b = ea from e]; exact h.te))]
   exact hA.keep b hb h9 (fun e => h8 (by rw [e]; exact h.tq))
 . rw [zaf _ _ _ _ n1]; exact hb'
 . rw [List.length_append, List.map_append]
   refine zaI hr' fun g hgv => zaf _ _ _ _ ?_; intro e; have h1 := ht' g hgv; rw [show g = ea from e, be.2, h.te] at h1; cases h1
 . exact zac w3 ea 0 _ _ _ _ be.1
 . exact (zaf _ _ _ _ (Ne.symm n4)).trans bs.1
 exact (zaf _ _ _ _ (Ne.symm n5)).trans bw.1
theorem RAt.grow (h : RAt w tag qa ea sa wa adr l E S qv) (S' : Set2) (hs : zcN w2 sa S') (hg : w.grownBy w2 (some sa)) : SUpd tag tag w w2 /\ RAt w2 tag qa ea sa wa adr l E S' qv := by
 obtain ⟨n1, n2, n3, n4, n5, n6⟩ := h.ne; have k : ∀ b, b < w.heap.size -> b ≠ sa -> w2.heap[b]? = w.heap[b]? := fun b hb e => hg.block b hb (fun e2 => e (by cases e2; rfl)); refine ⟨⟨hg.os, hg.tape, hg.output, hg.size, fun _ _ => rfl, fun b hb h8 h9 => k b hb (fun e => h8 (by rw [e]; exact h.ts))⟩, ⟨(k _ (zaa h.hq) n2).trans h.hq, zaI h.rq fun g hgv => k g (h.rq.lt g hgv).2 (fun e => ?_), (k _ (zaa h.he) n4).trans h.he, hs, (k _ (zaa h.hw) (Ne.symm n6)).trans h.hw, h.tq, h.te, h.ts, h.tw, h.ne, h.t9⟩⟩; have h1 := h.t9 g hgv; rw [e, h.ts] at h1; cases h1
end
theorem zhy (G : List Knot) (l : List Nat) (k : Nat) : zbZ G (l ++ [k]) = (zbZ G l || za7 G k) := by simp [zbZ]
theorem zfH (G : List Knot) (l : List Nat) (k : Nat) : zam G (l ++ [k]) = if 0 < zao G k then (zam G l).add (zao G k) else zam G l := by simp [zam]
theorem zeA {G : List Knot} (hp : ∀ i, zao G i < 128) (l : List Nat) : (zam G l).Ok := by
 have h : ∀ (l : List Nat) (s : Set2), s.Ok -> (l.foldl (fun s k => if 0 < zao G k then s.add (zao G k) else s) s).Ok := by
  intro l
  induction l with
  | nil => exact fun s hs => hs
  | cons a l ih =>
   intro s hs; rw [List.foldl_cons]; refine ih _ ?_; split
   . exact zhB hs (hp a)
   exact hs
 exact h l (0, 0) ⟨by decide, by decide⟩
theorem zjM {G : List Knot} : ∀ (f : Nat), (∀ k l l2, dfs G f k l = some l2 -> l.length <= l2.length) /\ (∀ r l l2, dfsL G f r l = some l2 -> l.length <= l2.length) := by
 intro f
 induction f with
 | zero => exact ⟨fun k l l2 h => (by rw [dfs] at h; cases h), fun r l l2 h => (by rw [dfsL] at h; cases h)⟩
 | succ f ih =>
  refine ⟨fun k l l2 h => ?_, fun r l l2 h => ?_⟩
  . rw [dfs] at h
    split at h
    . cases h; exact Nat.le_refl _
    have := ih.2 _ _ _ h
    simp at this; omega
  cases r with
  | nil => rw [dfsL] at h; cases h; exact Nat.le_refl _
  | cons k r =>
   rw [dfsL] at h; split at h
   . cases h
   rename_i s2 e
   exact Nat.le_trans (ih.1 _ _ _ e) (ih.2 _ _ _ h)
def DfsO (G : List Knot) (tag : Nat -> Nat) (qa ea sa wa : Nat) (adr : List Nat) (vs : List Value) (l2 : List Nat) (w : World) (e : Ending) (w' : World) : Prop :=
 e = .returned (.tuple #[]) /\ ∃ tag' qv', KAt w' tag' adr vs G (fun i => l2.contains i) /\ RAt w' tag' qa ea sa wa adr l2 (zbZ G l2) (zam G l2) qv' /\ DUpd tag tag' w w'
def DfsC (G : List Knot) (f : Nat) : Prop := ∀ (k : Nat) (l l2 : List Nat) (w : World) (tag : Nat -> Nat) (qa ea sa wa : Nat) (adr : List Nat) (vs : List Value) (qv : Value),
 dfs G f k l = some l2 -> KAt w tag adr vs G (fun i => l.contains i) -> RAt w tag qa ea sa wa adr l (zbZ G l) (zam G l) qv -> k < G.length -> l2.length <= 1000000 ->
 Calls Tryz.prog 81 #[zaj (adr.getD k 0), zaj qa, zaj ea, zaj sa, zaj wa] w (DfsO G tag qa ea sa wa adr vs l2 w)
structure DfsSt (G : List Knot) (F : Nat) (tag : Nat -> Nat) (qa ea sa wa : Nat) (adr : List Nat) (vs : List Value) (w : World) (l2 : List Nat) (r : List Nat) (tagk : Nat -> Nat) (l : List Nat) (qv : Value) (wr : World) : Prop where
 net : KAt wr tagk adr vs G (fun i => l.contains i)
 at' : RAt wr tagk qa ea sa wa adr l (zbZ G l) (zam G l) qv
 upd : DUpd tag tagk w wr
 rest : ∃ f, f <= F /\ dfsL G f r l = some l2
end
section
open Go.RowKit Go.Lib
theorem zfJ (l : List Nat) (k i : Nat) : (l ++ [k]).contains i = if i = k then true else l.contains i := by
 by_cases h : i = k <;> simp [h]
theorem dfs_any (G : List Knot) (hp : ∀ i, zao G i < 128) (f : Nat) : DfsC G f := by
 induction f using Nat.strongRecOn with
 | ind f ih =>
 intro k l l2 w tag qa ea sa wa adr vs qv hd hK hR hk hl2; cases f with
 | zero => rw [dfs] at hd; cases hd
 | succ f =>
 rw [dfs] at hd; have hc := hK.cell k hk; obtain ⟨ak, hak⟩ : ∃ x, x = adr.getD k 0 := ⟨_, rfl⟩; have hc3 := zab _ _ 3 _ _ _ hc; simp only [zLa, zLc, zLb] at hc3; rw [<- hak] at hc3 ⊢; have lk : ak < w.heap.size := by rw [hak]; exact zaa hc
 have fk : w.frozen? ⟨ak, 3, none⟩ = false := by rw [hak]; exact zae _ _ 3 _ _ hc
 cases hs : l.contains k with
 | true =>
  rw [hs] at hc3; rw [if_pos hs] at hd; cases hd; have H := hid (And.intro hK hR); clear hK hR hc hs ih hak; go_enter Tryz.func81, Tryz.ntmps81; go_wp2_with (fail); go_end0; exact ⟨rfl, tag, qv, H.out.1, H.out.2, DUpd.refl _ _⟩
 | false =>
  rw [hs] at hc3; rw [if_neg (by rw [hs]; decide)] at hd; have hlen := (zjM f).2 _ _ _ hd; have hlen2 : l.length + 1 <= 1000000000 := by simp at hlen; omega
  have hKm := (hK.mark k hk true).congr (seen' := fun i => (l ++ [k]).contains i) (fun i _ => (zfJ l k i).symm); have hUm := DUpd.mark hK k hk (.bool true) 3; have hRm := hR.other (adr.getD k 0) 3 (.bool true) (by rw [hK.ta k hk]; omega); rw [<- hak] at hKm hUm hRm; obtain ⟨wm, hwm⟩ : ∃ x, x = w.setCell ⟨ak, 3, none⟩ (.bool true) := ⟨_, rfl⟩; rw [<- hwm] at hKm hUm hRm; have HWM := hid hwm; have HK := hid hKm; have HR := hid hRm; have HU := hid hUm; have HD := hid hd; have HAK := hid hak; have IH := hid ih; clear hK hR hKm hUm hRm hd hc ih hwm hak hs
  have hcm := HK.out.cell k hk; rw [<- HAK.out] at hcm; have c0 := zab _ _ 0 _ _ _ hcm; have c1 := zab _ _ 1 _ _ _ hcm; have c2 := zab _ _ 2 _ _ _ hcm; simp only [zLa, zLc, zLb] at c0 c1 c2; have lkm : ak < wm.heap.size := zaa hcm; have q0 := zab _ _ 0 _ _ _ HR.out.hq; have qf := zae _ _ 0 _ _ HR.out.hq; have lq := zaa HR.out.hq; have e0 := zab _ _ 0 _ _ _ HR.out.he; have ef := zae _ _ 0 _ _ HR.out.he; have le := zaa HR.out.he
  simp only [zLa, zLb] at q0 e0; obtain ⟨n1, n2, n3, n4, n5, n6⟩ := HR.out.ne; have HNE := hid (And.intro (show qv.ownBlock ≠ some ea from fun e => by have := HR.out.t9 _ e; rw [HR.out.te] at this; cases this) (And.intro (show qv.ownBlock ≠ some qa from fun e => by have := HR.out.t9 _ e; rw [HR.out.tq] at this; cases this)
   (show qv.ownBlock ≠ some ak from fun e => by have h := HR.out.t9 _ e; have h2 := HK.out.ta k hk; rw [<- HAK.out, h] at h2; omega)))
  have nk : qa ≠ ak /\ ea ≠ ak := ⟨fun e => by have h := HR.out.tq; have h2 := HK.out.ta k hk; rw [<- HAK.out, <- e, h] at h2; omega, fun e => by have h := HR.out.te; have h2 := HK.out.ta k hk; rw [<- HAK.out, <- e, h] at h2; omega⟩; obtain ⟨nk1, nk2⟩ := nk; have HCM := hid hcm; clear hcm; have HLEN := hid hlen; clear hlen; obtain ⟨E, hE⟩ : ∃ E, E = zbZ G l := ⟨_, rfl⟩; rw [<- hE] at e0; have HE := hid hE; clear hE; go_enter Tryz.func81, Tryz.ntmps81; go_upto_region 2 with (fail)
  rw [<- HWM.out]
  go_upto_region 3 with (at_builtin; refine zan _ rfl _ _ rfl zcl _ _ _ rfl (by exact (HR.out.rq.alloc _)) ⟨_, 0, none⟩ 1 1 [zaj ak] rfl rfl (zaD _ #[zaj ak] _ _ (by simp)) (by simp [Value.oneCell']) (by decide) hlen2 (by decide) ?_; intro va w1 hra hga hba; obtain ⟨ga, ca, rfl⟩ := row_succ2 hra; obtain ⟨ke0, ke1, ke2⟩ := zcq (off := 0) HR.out.he HNE.out.1 hga; obtain ⟨kq0, kq1, kq2⟩ := zcq (off := 0) HR.out.hq HNE.out.2.1 hga; obtain ⟨kk0, kk1, kk2⟩ := zcq (off := 2) HCM.out HNE.out.2.2 hga; simp only [zLa, zLc, zLb] at ke0 kq0 kk0; rw [<- HE.out] at ke0)
  have HGA := hid (And.intro hra (And.intro hga hba)); clear hra hga hba; have HC1 := hid (And.intro e0 (And.intro q0 hc3)); clear e0 q0 hc3; cases E
  all_goals
   go_upto_region 4 with (fail)
  all_goals
   first
   | (have hX : za7 G k = zbZ G (l ++ [k]) := by rw [zhy, <- HE.out]; rfl
      have hP := HR.out.push k (za7 G k) _ _ (by rw [<- HAK.out]; exact HGA.out.1) HGA.out.2.1 HGA.out.2.2; generalize (w1.setCell ⟨qa, 0, none⟩ (.slice (some ⟨ga, 0, none⟩) (l.length + 1) ca)).setCell ⟨ea, 0, none⟩ (.bool (za7 G k)) = w3 at hP ⊢; rw [hX] at hP; clear hX)
   | (have hX : true = zbZ G (l ++ [k]) := by rw [zhy, <- HE.out]; rfl
      have hP := HR.out.push k (true) _ _ (by rw [<- HAK.out]; exact HGA.out.1) HGA.out.2.1 HGA.out.2.2; generalize (w1.setCell ⟨qa, 0, none⟩ (.slice (some ⟨ga, 0, none⟩) (l.length + 1) ca)).setCell ⟨ea, 0, none⟩ (.bool (true)) = w3 at hP ⊢; rw [hX] at hP; clear hX)
   obtain ⟨tg1, hS1, hR1⟩ := hP; have hK1 := hS1.net HK.out; have hU1 := HU.out.trans hS1.d; clear hS1 ke0 ke1 ke2 kq0 kq1 kq2 kk0 kk1 kk2 HGA HC1 HCM HK HR HU; have hcm := hK1.cell k hk; rw [<- HAK.out] at hcm; have c0 := zab _ _ 0 _ _ _ hcm; have c1 := zab _ _ 1 _ _ _ hcm; simp only [zLa, zLc, zLb] at c0 c1; have lk3 : ak < w3.heap.size := zaa hcm; clear hcm; have HK1 := hid hK1; have HR1 := hid hR1; have HU1 := hid hU1; clear hK1 hR1 hU1; by_cases hpl : 0 < zao G k
  all_goals
   first
   | (have hz : (0 : Int) < (zao G k : Int) := by omega
      go_upto_region 6 with (go_at_call 62; refine (zfo sa (zao G k) (zam G l) _ HR1.out.hs (zeA hp l) (hp k)).mono ?_; rintro e w5 ⟨rfl, hs5, hg5⟩)
      have hP5 := HR1.out.grow _ hs5 hg5; rw [show (zam G l).add (zao G k) = zam G (l ++ [k]) from by rw [zfH, if_pos hpl]] at hP5; have HK5 := hid (hP5.1.net HK1.out); have HR5 := hid hP5.2; have HU5 := hid (HU1.out.trans hP5.1.d); clear hP5 hs5 hg5)
   | (have hz : ¬ (0 : Int) < (zao G k : Int) := by omega
      go_upto_region 6 with (fail)
      have HK5 := HK1; have HR5 := HR1; have HU5 := HU1; rw [show zam G l = zam G (l ++ [k]) from by rw [zfH, if_neg hpl]] at HR5; generalize w3 = w5 at *)
   clear c0 c1 lk3 hpl hz HK1 HR1 HU1; have hcm := HK5.out.cell k hk; rw [<- HAK.out] at hcm; have c0 := zab _ _ 0 _ _ _ hcm; simp only [zLa, zLb] at c0; have lk5 : ak < w5.heap.size := zaa hcm; clear hcm; have hrow := HK5.out.row k hk; have hwf := HK5.out.wf k; have HWF := hid hwf; clear hwf; have hst : DfsSt G f tag qa ea sa wa adr vs w l2 (toOf G k) tg1 (l ++ [k]) (.slice (some ⟨ga, 0, none⟩) (l.length + 1) ca) w5 := ⟨HK5.out, HR5.out, HU5.out, f, Nat.le_refl _, HD.out⟩; have HST := hid hst; clear hst HK5 HR5 HU5
   have hmax : ((toOf G k).length : Int) <= 9223372036854775807 := by
    have : (toOf G k).length <= maxLen := by rcases hrow.2 with ⟨_, h⟩ | ⟨_, _, _, _, _, _, h, h', _⟩ <;> omega
    unfold maxLen at this; omega
   rcases zaG hrow with ⟨hv, hn⟩ | ⟨g, cap, hv, hcap, hg⟩
   . rw [hv] at c0
     have hl0 : toOf G k = [] := List.eq_nil_of_length_eq_zero hn; have HL0 := hid hl0; clear hrow hv hn hl0 hmax; go_wp2_with (fail); refine wp_loop_rounds 1 ?_; rw [rounds_succ]; go_wp2_with (fail); go_end0; obtain ⟨f', hf', hd'⟩ := HST.out.rest; rw [HL0.out] at hd'; cases f' with
     | zero => rw [dfsL] at hd'; cases hd'
     | succ f' =>
      rw [dfsL] at hd'; cases hd'; exact ⟨rfl, tg1, _, HST.out.net, HST.out.at', HST.out.upd⟩
   rw [hv] at c0
   have HV := hid hv; clear hv hrow; go_wp2_with (fail); go_loopw [41] (fun s41 wr => ∃ (j : Nat) (tagj : Nat -> Nat) (lj : List Nat) (qvj : Value), s41 = .int .i64 j /\ j <= (toOf G k).length /\ DfsSt G f tag qa ea sa wa adr vs w l2 ((toOf G k).drop j) tagj lj qvj wr) (fun s41 _ => (toOf G k).length - (RowKit.intOf s41).toNat)
   case atStart => exact ⟨0, tg1, _, _, rfl, by omega, HST.out⟩
   case round =>
    obtain ⟨j, tagj, lj, qvj, rfl, hj, hS⟩ := hrel; have HS := hid hS; clear hS; by_cases hlt : j < (toOf G k).length
    . have hz : (j : Int) < ((toOf G k).length : Int) := by omega
      obtain ⟨n, hn⟩ : ∃ n, (toOf G k)[j]? = some n := ⟨(toOf G k)[j], zLe hlt⟩; have hng := HWF.out n hk (List.mem_of_getElem? hn); have hdrop : (toOf G k).drop j = n :: (toOf G k).drop (j + 1) := by rw [List.drop_eq_getElem_cons hlt]; congr 1; rw [zLe hlt] at hn; exact Option.some.inj hn
      obtain ⟨f', hf', hd'⟩ := HS.out.rest; rw [hdrop] at hd'; cases f' with
      | zero => rw [dfsL] at hd'; cases hd'
      | succ f' =>
      rw [dfsL] at hd'; cases hx : dfs G f' n lj with
      | none => rw [hx] at hd'; cases hd'
      | some s2 =>
      rw [hx] at hd'; simp only at hd'; have hrw := HS.out.net.row k hk; rw [HV.out] at hrw; obtain ⟨an, han⟩ : ∃ x, x = adr.getD n 0 := ⟨_, rfl⟩; have hcn : wr.cell? ⟨g, j, none⟩ = some (zaj an) := by
       rw [han]; refine zax hrw _ _ ?_; rw [List.getElem?_map, hn]; rfl
      have hcw := zab _ _ 0 _ _ _ HS.out.at'.hw; simp only [zLa, zLb] at hcw; have lw := zaa HS.out.at'.hw; have lg : g < wr.heap.size := (hrw.lt g rfl).2; have hl2' := Nat.le_trans ((zjM f').2 _ _ _ hd') hl2; have hcall := IH.out f' (by omega) n lj s2 wr tagj qa ea sa wa adr vs qvj hx HS.out.net HS.out.at' hng hl2'; rw [<- han] at hcall; have HCALL := hid hcall; have HD2 := hid hd'; clear hcall hd' hx hdrop hn hrw han hl2'; go_wp2_with (fail); refine HCALL.out.mono ?_; rintro e w6 ⟨rfl, tag6, qv6, hK6, hR6, hU6⟩
      have HK6 := hid (And.intro hK6 (And.intro hR6 hU6)); clear hK6 hR6 hU6; go_wp2_with (fail); go_roundw
      case rel =>
       exact ⟨j + 1, tag6, s2, qv6, by go_num, by omega, HK6.out.1, HK6.out.2.1, HS.out.upd.trans HK6.out.2.2, f', by omega, HD2.out⟩
      case measure => (simp [RowKit.intOf] <;> omega)
    have hz : ¬ (j : Int) < ((toOf G k).length : Int) := by omega
    have hjl : j = (toOf G k).length := by omega
    obtain ⟨f', hf', hd'⟩ := HS.out.rest; rw [hjl, List.drop_length] at hd'; cases f' with
    | zero => rw [dfsL] at hd'; cases hd'
    | succ f' =>
    rw [dfsL] at hd'; cases hd'; have HJ := hid hjl; clear hjl; go_wp2_with (fail); go_end0; exact ⟨rfl, tagj, qvj, HS.out.net, HS.out.at', HS.out.upd⟩
end
end Go.Proofs.YtghpmhllpaheiaaGreatDoor
