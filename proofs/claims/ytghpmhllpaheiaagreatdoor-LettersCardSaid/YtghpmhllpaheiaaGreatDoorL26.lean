/-
  Part of the proof: Rf1, Rf2, Rf3. No condition beyond those in the statements.
-/
import Derived.RangeFuncNested
import Derived.RangeFuncBound
import Derived.RangeFuncCalls
import Derived.RangeFuncLeaves
import Derived.RangeFuncBox
import Derived.OwnWalkIn
import Derived.TacticsInMore
import Derived.LoopNIn
import Derived.LoopIn
import Derived.Test.YtghpmhllpaheiaaGreatDoorL25
import Derived.Test.YtghpmhllpaheiaaGreatDoorL22
set_option linter.unusedVariables false
set_option linter.unusedSimpArgs false
set_option maxRecDepth 100000
set_option maxHeartbeats 4000000
namespace Go.Proofs.YtghpmhllpaheiaaGreatDoor
section
open Go.RowKit Go.Lib
attribute [local go_sem] Oper.semAt_some
abbrev recL (fn : FuncId) (tmps : Array Value) (ps : Array Tmp) (assign body : Code) (D : Nat) (st : LoopState) (pe : Option Code) : Loop := { state := st, pending := pe, fn, tmps, params := ps, assign, body, defers := D }
def ypost (l : Nat) (rec : LoopState -> Option Code -> Loop) (R : Ending -> World -> Prop) : Exit -> Act -> World -> Prop
 | .normal, _, w => w.heap[l]? = some (.loop (rec .busy none)) /\ R (.returned (.bool true)) (w.putObj l (.loop (rec .ready none)))
 | .ret, _, w => w.heap[l]? = some (.loop (rec .busy none)) /\ R (.returned (.bool false)) (w.putObj l (.loop (rec .done (some .ret))))
 | .exit id, _, w => w.heap[l]? = some (.loop (rec .busy none)) /\ R (.returned (.bool false)) (w.putObj l (.loop (rec .done (some (.exit id)))))
 | _, _, _ => False
section
variable {F : Fence} {n : Nat} {P : Program}
theorem yield_own {fn : FuncId} {tmps : Array Value} {ps : Array Tmp} {assign body : Code} {D l : Nat} {W : World} {args : Array Value} {R : Ending -> World -> Prop} (hF : F.fn fn)
 (hl : W.heap[l]? = some (.loop (recL fn tmps ps assign body D .ready none))) (hs : args.size = ps.size)
 (h : assign.wpIn (F.inRound l) n P (Exit.then (fun a1 W2 => W2.heap[l]? = some (.loop (recL fn tmps ps assign body D .ready none)) /\ body.wpIn (F.inRound l) n P (ypost l (recL fn tmps ps assign body D) R) a1 (W2.putObj l (.loop (recL fn tmps ps assign body D .busy none)))) (fun _ _ _ => False))
  { tmps := (ps.zip args).foldl (fun t (p, v) => t.setIfInBounds p v) tmps, defers := [] } W) : YieldAt F n P l args W R := by
 refine ⟨fn, _, assign, body, run_yield (P := P) hl hs, roundIn_of_wpIn hF (wpIn_mono h ?_)⟩; rintro e a1 W2 hp; cases e with
 | normal =>
  obtain ⟨h1, h2⟩ := hp; refine ⟨_, run_beginRound h1 rfl, wpIn_mono h2 ?_⟩; rintro e a3 W3 hq; cases e with
  | normal => exact ⟨_, _, run_endRound none hq.1, hq.2⟩
  | ret => exact ⟨_, _, run_endRound (some .ret) hq.1, hq.2⟩
  | exit id => exact ⟨_, _, run_endRound (some (.exit id)) hq.1, hq.2⟩
  | goto t => exact hq.elim
  | panic c => exact hq.elim
  | outgrown => exact hq.elim
 | ret => exact hp.elim
 | exit id => exact hp.elim
 | goto t => exact hp.elim
 | panic c => exact hp.elim
 | outgrown => exact hp.elim
def rpost (F : Fence) (n : Nat) (P : Program) (l : Nat) (rec : LoopState -> Option Code -> Loop) (Q : Exit -> Act -> World -> Prop) (a : Act) (e : Ending) (W : World) : Prop :=
 ∃ v st c, e = .returned v /\ st ≠ .busy /\ W.heap[l]? = some (.loop (rec st (some c))) /\ c.wpIn F n P Q a (W.putObj l (.loop (rec .exhausted (some c))))
theorem range_own {g : Operand} {ps : Array Tmp} {assign body : Code} {Q : Exit -> Act -> World -> Prop} {a : Act} {w : World}
 (hro : F.round = none) (h1 : 1 <= n) {gf : Nat} {lb : Array Value} (hg : a.eval g = .func (.func gf) #[] lb) (hFg : F.fn gf) (eg : ∀ args w, (callFunc gf args).run P w = .ok (.enter gf args) w)
 (h : ∀ fn, F.fn fn -> CallsIn F (n - 1) P gf (#[.func (.yield (w.heap.size + 1)) #[] #[]] ++ lb) ((w.alloc (.deferred (some []))).alloc (.loop (recL fn a.tmps ps assign body w.heap.size .ready none)))
  (rpost F n P (w.heap.size + 1) (recL fn a.tmps ps assign body w.heap.size) Q { a with defers := { target := .collected w.heap.size, args := #[] } :: a.defers })) :
 (Code.rangeFunc g ps assign body).wpIn F n P Q a w := by
 refine wpIn_rangeFunc ?_; intro fn hfn; rw [hro]; have hc := h fn hfn; have he := run_enterLoop_outer (P := P) (w := w) fn a.tmps ps assign body; obtain ⟨W1, hW1⟩ : ∃ W1, (w.alloc (.deferred (some []))).alloc (.loop (recL fn a.tmps ps assign body w.heap.size .ready none)) = W1 := ⟨_, rfl⟩; rw [hW1] at hc; have he' : (Instr.enterLoop fn a.tmps ps assign body none).run P w = .ok (w.heap.size + 1, [{ target := .collected w.heap.size, args := #[] }]) W1 := by rw [<- hW1]; exact he
 clear he hW1; refine ⟨w.heap.size + 1, [{ target := .collected w.heap.size, args := #[] }], W1, { target := .fn (.func gf) lb, args := #[.func (.yield (w.heap.size + 1)) #[] #[]] }, W1, gf,
  #[.func (.yield (w.heap.size + 1)) #[] #[]] ++ lb, W1, he', ?_, ?_, ?_, fun _ => h1, ?_⟩
 . simp only [resolve, hg]
   simp [go_sem]
 . intro f' hf'; simp [Target.leads] at hf'; subst hf'; exact hFg
 . simp [invoke, go_sem, eg]
 refine hc.mono ?_
 rintro e W2 ⟨v, st, c, rfl, hst, hl, hj⟩; have hr := run_endLoop (P := P) hl hst; exact ⟨some c, _, hr, hj⟩
end
def zbF (l : List Tk) : List Value := l.flatMap fun t => [.int .i64 t.rule, .int .i64 t.pos, .int .i64 t.line, .int .i64 t.col, .string t.text]
theorem zjP (l : List Tk) (t : Tk) : zbF (l ++ [t]) = zbF l ++ [.int .i64 t.rule, .int .i64 t.pos, .int .i64 t.line, .int .i64 t.col, .string t.text] := by simp [zbF]
theorem zcB {w w' : World} {B : Nat} {e : TypeId} {size : Nat} {v : Value} {n : Nat} {xs : List Value} (h : w.ownsRow B e size v n xs) (hx : ∀ g, v.ownBlock = some g -> w'.heap[g]? = w.heap[g]?) : w'.ownsRow B e size v n xs := by
 refine ⟨h.1, ?_⟩
 rcases h.2 with hn | ⟨g, cap, cur, rfl, hb, hgg, rest⟩
 . exact .inl hn
 exact .inr ⟨g, cap, cur, rfl, hb, by rw [hx g rfl]; exact hgg, rest⟩
theorem zcQ {w : World} {B : Nat} {e : TypeId} {size : Nat} {v : Value} {n : Nat} {xs : List Value} (h : w.ownsRow B e size v n xs) : ∀ g, v.ownBlock = some g -> B <= g /\ g < w.heap.size := by
 rcases h.2 with ⟨rfl, _⟩ | ⟨g, cap, cur, rfl, hb, hgg, rest⟩
 . intro g hg; cases hg
 intro g' hg; cases hg; exact ⟨hb, zaa hgg⟩
structure ziy (m xb : Nat) (most : Int) (rec : Obj) (outv r1 r2 : Value) (W : World) : Prop where
 most : W.heap[m]? = some (.cells #[.int .i64 most] 3 (0, 0))
 r1 : W.heap[m + 1]? = some (.cells #[r1] 24 (0, 0))
 r2 : W.heap[m + 1 + 1]? = some (.cells #[r2] 34 (0, 0))
 out : W.heap[m + 1 + 1 + 1]? = some (.cells #[outv] 24 (0, 0))
 box : W.heap[m + 1 + 1 + 1 + 1]? = some (.cells #[zaj xb] 46 (0, 0))
 dd : W.heap[m + 1 + 1 + 1 + 1 + 1]? = some (.deferred (some []))
 ll : W.heap[m + 1 + 1 + 1 + 1 + 1 + 1]? = some rec
theorem ziy.lt {m xb : Nat} {most : Int} {rec : Obj} {outv r1 r2 : Value} {W : World} (h : ziy m xb most rec outv r1 r2 W) : m + 6 < W.heap.size := zaa h.ll
theorem ziy.kept {m xb : Nat} {most : Int} {rec : Obj} {outv r1 r2 : Value} {W W' : World} (h : ziy m xb most rec outv r1 r2 W) (hk : ∀ b, m <= b -> b < m + 7 -> W'.heap[b]? = W.heap[b]?) : ziy m xb most rec outv r1 r2 W' :=
 ⟨(hk _ (by omega) (by omega)).trans h.most, (hk _ (by omega) (by omega)).trans h.r1, (hk _ (by omega) (by omega)).trans h.r2, (hk _ (by omega) (by omega)).trans h.out, (hk _ (by omega) (by omega)).trans h.box, (hk _ (by omega) (by omega)).trans h.dd, (hk _ (by omega) (by omega)).trans h.ll⟩
structure zbt (B bs bt sb C xb : Nat) (w0 : World) (bv0 : Value) (most : Int) (rec : Obj) (bv outv r1 r2 : Value) (x : Sc) (toks : List Tk) (W : World) : Prop where
 st : ScX B W bs bt sb C x bv
 keep : Keep bs sb bv0 bv w0 W
 box : ziy w0.heap.size xb most rec outv r1 r2 W
 row : W.ownsRow (w0.heap.size + 7) 28 5 outv toks.length (zbF toks)
 own : ∀ g, bv.ownBlock = some g -> (g < w0.heap.size \/ w0.heap.size + 7 <= g) /\ outv.ownBlock ≠ some g
 lt : B <= w0.heap.size /\ bs < w0.heap.size /\ sb < w0.heap.size
section
variable {B bs bt sb C xb : Nat} {w0 : World} {bv0 : Value} {most : Int} {rec : Obj} {bv outv r1 r2 : Value} {x : Sc} {toks : List Tk} {W W' : World}
theorem zbt.gen (h : zbt B bs bt sb C xb w0 bv0 most rec bv outv r1 r2 x toks W) {rec' : Obj} {outv' r1' r2' : Value} {toks' : List Tk} (ho : W'.os = W.os /\ W'.tape = W.tape /\ W'.output = W.output /\ W.heap.size <= W'.heap.size)
 (hlow : ∀ b, b < w0.heap.size -> W'.heap[b]? = W.heap[b]?) (hbv : ∀ g, bv.ownBlock = some g -> W'.heap[g]? = W.heap[g]?) (hbox : ziy w0.heap.size xb most rec' outv' r1' r2' W') (hrow : W'.ownsRow (w0.heap.size + 7) 28 5 outv' toks'.length (zbF toks'))
 (hown : ∀ g, bv.ownBlock = some g -> outv'.ownBlock ≠ some g) : zbt B bs bt sb C xb w0 bv0 most rec' bv outv' r1' r2' x toks' W' :=
 ⟨⟨(hlow _ h.lt.2.1).trans h.st.sc, h.st.buf.kept hbv, h.st.src.below (fun b hb => hlow b (zLd hb h.lt.1)), h.st.ok, h.st.bB, h.st.own⟩,
  ⟨ho.1.trans h.keep.os, ho.2.1.trans h.keep.tape, ho.2.2.1.trans h.keep.output, Nat.le_trans h.keep.size ho.2.2.2, fun b hb h1 h2 h3 => (hlow b hb).trans (h.keep.keep b hb h1 h2 h3), h.keep.new⟩,
  hbox, hrow, fun g hg => ⟨(h.own g hg).1, hown g hg⟩, h.lt⟩
theorem zbt.alloc (h : zbt B bs bt sb C xb w0 bv0 most rec bv outv r1 r2 x toks W) (o : Obj) : zbt B bs bt sb C xb w0 bv0 most rec bv outv r1 r2 x toks (W.alloc o) := by
 have hl := h.box.lt; refine h.gen ⟨rfl, rfl, rfl, by simp⟩ (fun b hb => zau _ _ _ (by omega)) (fun g hg => zau _ _ _ (h.st.buf.lt g hg)) (h.box.kept fun b _ hb => zau _ _ _ (by omega)) ?_ (fun g hg => (h.own g hg).2); exact zcB h.row fun g hg => zau _ _ _ (zcQ h.row g hg).2
theorem zbt.drewN (h : zbt B bs bt sb C xb w0 bv0 most rec bv outv r1 r2 x toks W) (n : Nat) : zbt B bs bt sb C xb w0 bv0 most rec bv outv r1 r2 x toks (W.drewN n) :=
 h.gen ⟨rfl, rfl, rfl, Nat.le_refl _⟩ (fun _ _ => rfl) (fun _ _ => rfl) (h.box.kept fun _ _ _ => rfl) (zcB h.row fun _ _ => rfl) (fun g hg => (h.own g hg).2)
theorem zbt.put (h : zbt B bs bt sb C xb w0 bv0 most rec bv outv r1 r2 x toks W) (o : Obj) : zbt B bs bt sb C xb w0 bv0 most o bv outv r1 r2 x toks (W.putObj (w0.heap.size + 1 + 1 + 1 + 1 + 1 + 1) o) := by
 have hl := h.box.lt; have hk : ∀ b, b ≠ w0.heap.size + 1 + 1 + 1 + 1 + 1 + 1 -> (W.putObj (w0.heap.size + 1 + 1 + 1 + 1 + 1 + 1) o).heap[b]? = W.heap[b]? := fun b hb => World.putObj_heap_other hb; refine h.gen ⟨rfl, rfl, rfl, by simp⟩ (fun b hb => hk b (by omega)) (fun g hg => hk g (by have := (h.own g hg).1; omega)) ?_ (zcB h.row fun g hg => hk g (by have := zcQ h.row g hg; omega)) (fun g hg => (h.own g hg).2)
 exact ⟨(hk _ (by omega)).trans h.box.most, (hk _ (by omega)).trans h.box.r1, (hk _ (by omega)).trans h.box.r2, (hk _ (by omega)).trans h.box.out, (hk _ (by omega)).trans h.box.box, (hk _ (by omega)).trans h.box.dd, World.putObj_heap_same (by omega)⟩
theorem zbt.set1 (h : zbt B bs bt sb C xb w0 bv0 most rec bv outv r1 r2 x toks W) (v : Value) : zbt B bs bt sb C xb w0 bv0 most rec bv outv v r2 x toks (W.setCell ⟨w0.heap.size + 1, 0, none⟩ v) := by
 have hl := h.box.lt; have hk : ∀ b, b ≠ w0.heap.size + 1 -> (W.setCell ⟨w0.heap.size + 1, 0, none⟩ v).heap[b]? = W.heap[b]? := fun b hb => zaf _ _ _ _ hb; refine h.gen ⟨rfl, rfl, rfl, by simp [World.setCell]⟩ (fun b hb => hk b (by omega)) (fun g hg => hk g (by have := (h.own g hg).1; omega)) ?_ (zcB h.row fun g hg => hk g (by have := zcQ h.row g hg; omega)) (fun g hg => (h.own g hg).2)
 exact ⟨(hk _ (by omega)).trans h.box.most, zac _ _ 0 _ _ _ _ h.box.r1, (hk _ (by omega)).trans h.box.r2, (hk _ (by omega)).trans h.box.out, (hk _ (by omega)).trans h.box.box, (hk _ (by omega)).trans h.box.dd, (hk _ (by omega)).trans h.box.ll⟩
theorem zbt.set2 (h : zbt B bs bt sb C xb w0 bv0 most rec bv outv r1 r2 x toks W) (v : Value) : zbt B bs bt sb C xb w0 bv0 most rec bv outv r1 v x toks (W.setCell ⟨w0.heap.size + 1 + 1, 0, none⟩ v) := by
 have hl := h.box.lt; have hk : ∀ b, b ≠ w0.heap.size + 1 + 1 -> (W.setCell ⟨w0.heap.size + 1 + 1, 0, none⟩ v).heap[b]? = W.heap[b]? := fun b hb => zaf _ _ _ _ hb; refine h.gen ⟨rfl, rfl, rfl, by simp [World.setCell]⟩ (fun b hb => hk b (by omega)) (fun g hg => hk g (by have := (h.own g hg).1; omega)) ?_ (zcB h.row fun g hg => hk g (by have := zcQ h.row g hg; omega)) (fun g hg => (h.own g hg).2)
 exact ⟨(hk _ (by omega)).trans h.box.most, (hk _ (by omega)).trans h.box.r1, zac _ _ 0 _ _ _ _ h.box.r2, (hk _ (by omega)).trans h.box.out, (hk _ (by omega)).trans h.box.box, (hk _ (by omega)).trans h.box.dd, (hk _ (by omega)).trans h.box.ll⟩
theorem zbt.app (h : zbt B bs bt sb C xb w0 bv0 most rec bv outv r1 r2 x toks W) (o : Obj) {v' : Value} {t : Tk} (hrow : W'.ownsRow (w0.heap.size + 7) 28 5 v' (toks.length + 1) (zbF toks ++ [.int .i64 t.rule, .int .i64 t.pos, .int .i64 t.line, .int .i64 t.col, .string t.text]))
 (hg : (W.alloc o).grownBy W' outv.ownBlock) :
 W'.heap[w0.heap.size + 1 + 1 + 1]? = some (.cells #[outv] 24 (0, 0)) /\ zbt B bs bt sb C xb w0 bv0 most rec bv v' r1 r2 x (toks ++ [t]) (W'.setCell ⟨w0.heap.size + 1 + 1 + 1, 0, none⟩ v') := by
 have hl := h.box.lt; have hrl := zcQ h.row; have hk1 : ∀ b, b < W.heap.size -> outv.ownBlock ≠ some b -> W'.heap[b]? = W.heap[b]? := fun b hb hne => (hg.block b (by simp; omega) (fun e => hne e.symm)).trans (zau _ _ _ hb); have hlo : ∀ b, b < w0.heap.size + 7 -> outv.ownBlock ≠ some b := fun b hb e => by have := hrl b e; omega
 have hout := (hk1 (w0.heap.size + 1 + 1 + 1) (by omega) (hlo _ (by omega))).trans h.box.out; have hk : ∀ b, b < W.heap.size -> outv.ownBlock ≠ some b -> b ≠ w0.heap.size + 1 + 1 + 1 -> (W'.setCell ⟨w0.heap.size + 1 + 1 + 1, 0, none⟩ v').heap[b]? = W.heap[b]? := fun b hb h1 h2 => (zaf _ _ _ _ h2).trans (hk1 b hb h1); have hsz : W.heap.size <= W'.heap.size := by have := hg.size; simp at this; omega
 refine ⟨hout, h.gen ⟨hg.os, hg.tape, hg.output, by simp [World.setCell]; omega⟩ (fun b hb => hk b (by omega) (hlo _ (by omega)) (by omega)) (fun g hg' => hk g (h.st.buf.lt g hg') (h.own g hg').2 (by have := (h.own g hg').1; omega)) ?_ ?_ ?_⟩
 . exact ⟨(hk _ (by omega) (hlo _ (by omega)) (by omega)).trans h.box.most, (hk _ (by omega) (hlo _ (by omega)) (by omega)).trans h.box.r1, (hk _ (by omega) (hlo _ (by omega)) (by omega)).trans h.box.r2, zac _ _ 0 _ _ _ _ hout, (hk _ (by omega) (hlo _ (by omega)) (by omega)).trans h.box.box, (hk _ (by omega) (hlo _ (by omega)) (by omega)).trans h.box.dd, (hk _ (by omega) (hlo _ (by omega)) (by omega)).trans h.box.ll⟩
 . rw [List.length_append, List.length_singleton, zjP]
   exact zcB hrow fun g hg' => zaf _ _ _ _ (by have := zcQ hrow g hg'; show g ≠ w0.heap.size + 1 + 1 + 1; omega)
 intro g hg' e
 have hgb := hk1 g (h.st.buf.lt g hg') (h.own g hg').2; have hty : ∃ c : Array Value, W.heap[g]? = some (.cells c 5 (0, 0)) := by
  rcases h.st.buf with ⟨e1, _⟩ | ⟨g1, off, cap, cells, e1, _, h3, _⟩
  . rw [e1] at hg'; cases hg'
  rw [e1] at hg'; cases hg'; exact ⟨cells, h3⟩
 obtain ⟨c, hc⟩ := hty
 rcases hrow.2 with ⟨rfl, _⟩ | ⟨g2, cap, cur, rfl, _, h4, _⟩
 . cases e
 cases e
 rw [hgb, hc] at h4; simp at h4
theorem zbt.next (h : zbt B bs bt sb C xb w0 bv0 most rec bv outv r1 r2 x toks W) {bv' : Value} {x' : Sc} (hs : ScX B W' bs bt sb C x' bv') (hk : Keep bs sb bv bv' W W') : zbt B bs bt sb C xb w0 bv0 most rec bv' outv r1 r2 x' toks W' := by
 have hl := h.box.lt; have hrl := zcQ h.row; have hlt := h.lt; have hb : ∀ b, w0.heap.size <= b -> b < w0.heap.size + 7 -> bv.ownBlock ≠ some b := fun b h1 h2 e => by have := (h.own b e).1; omega
 refine ⟨hs, h.keep.trans hk, h.box.kept fun b h1 h2 => hk.keep b (by omega) (by omega) (by omega) (hb b h1 h2), zcB h.row fun g hg => hk.keep g (hrl g hg).2 (by have := (hrl g hg).1; omega) (by have := (hrl g hg).1; omega) (fun e => (h.own g e).2 hg), fun g hg => ?_, h.lt⟩
 rcases hk.new g hg with e | e
 . exact h.own g e
 exact ⟨.inr (by omega), fun e' => by have := (hrl g e').2; omega⟩
end
end
section
open Go.RowKit Go.Lib
attribute [local go_sem] Oper.semAt_some
def outLen (W : World) (b : Nat) : Nat :=
 match W.cell? ⟨b, 0, none⟩ with
 | some (.slice _ n _) => n
 | _ => 0
theorem zbt.outLen {B bs bt sb C xb : Nat} {w0 : World} {bv0 : Value} {most : Int} {rec : Obj} {bv outv r1 r2 : Value} {x : Sc} {toks : List Tk} {W : World} (h : zbt B bs bt sb C xb w0 bv0 most rec bv outv r1 r2 x toks W) : outLen W (w0.heap.size + 1 + 1 + 1) = toks.length := by
 have c := zab _ _ 0 _ _ _ h.box.out; simp only [zLa, zLb] at c; unfold Go.Proofs.YtghpmhllpaheiaaGreatDoor.outLen; rw [c]
 rcases h.row.2 with ⟨rfl, h0⟩ | ⟨g, cap, cur, rfl, _⟩
 . exact h0.symm
 rfl
def RoundO (B bs bt sb C xb : Nat) (w0 : World) (bv0 : Value) (most : Nat) (rec : LoopState -> Option Code -> Loop) (bv : Value) (x : Sc) (toks : List Tk) (t : Tk) (k : Nat) (e : Ending) (W' : World) : Prop :=
 (k ≠ 0 /\ e = .returned (.bool false) /\ ∃ outv, zbt B bs bt sb C xb w0 bv0 most (.loop (rec .done (some .ret))) bv outv outv (errV k) x toks W') \/
 (k = 0 /\ toks.length + 1 < most /\ e = .returned (.bool true) /\ ∃ outv, zbt B bs bt sb C xb w0 bv0 most (.loop (rec .ready none)) bv outv (.slice none 0 0) .nilIface x (toks ++ [t]) W') \/
 (k = 0 /\ toks.length + 1 = most /\ e = .returned (.bool false) /\ ∃ outv, zbt B bs bt sb C xb w0 bv0 most (.loop (rec .done (some (.exit 0)))) bv outv (.slice none 0 0) .nilIface x (toks ++ [t]) W')
def IterO (B bs bt sb C xb : Nat) (w0 : World) (bv0 : Value) (most : Nat) (rec : LoopState -> Option Code -> Loop) (R : List Tk × Nat × Sc) (W' : World) : Prop :=
 ∃ bv outv, (R.2.1 ≠ 0 /\ zbt B bs bt sb C xb w0 bv0 most (.loop (rec .done (some .ret))) bv outv outv (errV R.2.1) R.2.2 R.1 W') \/
  (R.2.1 = 0 /\ zbt B bs bt sb C xb w0 bv0 most (.loop (rec .done (some (.exit 0)))) bv outv (.slice none 0 0) .nilIface R.2.2 R.1 W')
theorem iter_any (T : Tab) (R0 : Nat) (hT : WfT T R0) (BT B : Nat) (w0 : World) (bs bt sb C bc cc br cr bg cg M xb : Nat) (bv0 : Value) (most : Nat) (rec : LoopState -> Option Code -> Loop) (x0 : Sc) (W : World) (bv : Value)
 (hxb : w0.heap[xb]? = some (.cells #[zaj bs] 62 (0, 0)) /\ xb ≠ bs /\ xb ≠ sb /\ bv0.ownBlock ≠ some xb) (hTab : zbY BT w0 bt T bc cc br cr bg cg) (hTabs : Tabs w0) (hG : Glob <= BT) (hBT : BT <= sb /\ BT <= bs /\ (∀ g, bv0.ownBlock = some g -> BT <= g)) (hC4 : 4 <= C) (hC2 : C <= 900000) (hM : M <= 100000000) (hw : ScWf M C x0) (hm : 1 <= most)
 (hY : ∀ (bv outv : Value) (x : Sc) (toks : List Tk) (W : World) (t : Tk) (k : Nat), zbt B bs bt sb C xb w0 bv0 most (.loop (rec .ready none)) bv outv (.slice none 0 0) .nilIface x toks W -> toks.length < most ->
  YieldAt Fence.wide 1 Tryz.prog (w0.heap.size + 1 + 1 + 1 + 1 + 1 + 1) #[tkV t, errV k] W (RoundO B bs bt sb C xb w0 bv0 most rec bv x toks t k))
 (h : zbt B bs bt sb C xb w0 bv0 most (.loop (rec .ready none)) bv (.slice none 0 0) (.slice none 0 0) .nilIface x0 [] W) :
 CallsIn Fence.wide 2 Tryz.prog 50 #[.func (.yield (w0.heap.size + 1 + 1 + 1 + 1 + 1 + 1)) #[] #[], .pointer (some ⟨w0.heap.size + 1 + 1 + 1 + 1, 0, none⟩)] W
  fun e W' => (∃ v, e = .returned v) /\ IterO B bs bt sb C xb w0 bv0 most rec (allL T C most x0 []) W' := by
 have HY := hid hY; have H := hid (And.intro h hw); have HTB := hid (And.intro hxb (And.intro hTab (And.intro hTabs (And.intro hG hBT)))); obtain ⟨R, hR⟩ : ∃ R, R = allL T C most x0 [] := ⟨_, rfl⟩; have HR := hid hR; rw [<- hR]; clear hY h hxb hTab hTabs hBT hw hR; refine callsIn_of_wp Tryz.func50 rfl trivial ?_ rfl; simp only [Tryz.ntmps50, List.size_toArray, List.length_cons, List.length_nil, Nat.reduceAdd, Nat.reduceSub, Array.replicate_succ, Array.replicate_zero, List.push_toArray, List.append_toArray, List.nil_append, List.cons_append]
 gi_wp2
 gi_loopw [3] (fun p wr => ∃ (bv outv : Value) (x : Sc) (toks : List Tk), zbt B bs bt sb C xb w0 bv0 most (.loop (rec .ready none)) bv outv (.slice none 0 0) .nilIface x toks wr /\ ScWf M C x /\ toks.length < most /\ allL T C (most - toks.length) x toks = R)
  (fun p wr => most - outLen wr (w0.heap.size + 1 + 1 + 1))
 case atStart => exact ⟨bv, _, x0, [], H.out.1, H.out.2, by simp; omega, HR.out.symm⟩
 case round =>
  obtain ⟨bv1, outv1, x1, toks1, hm1, hwf1, hlt1, hrest1⟩ := hrel; obtain ⟨n1, hn1⟩ : ∃ n1, most - toks1.length = n1 + 1 := ⟨most - toks1.length - 1, by omega⟩; rw [hn1, allL] at hrest1; have hlt := hm1.lt; have hbw : Below BT w0 wr := hm1.keep.below (Nat.le_trans (Nat.le_trans HTB.out.2.2.2.2.2.1 (Nat.le_of_lt hlt.2.1)) (Nat.le_refl _)) HTB.out.2.2.2.2.2.1 HTB.out.2.2.2.2.1 HTB.out.2.2.2.2.2.2
  have hN := zgJ T R0 hT BT B wr bs bt sb C bc cc br cr bg cg M x1 bv1 hm1.st (HTB.out.2.1.below hbw) (zaL HTB.out.2.2.1 hbw HTB.out.2.2.2.1) HTB.out.2.2.2.1 HTB.out.2.2.2.2.1 hC4 hC2 hwf1 hM; have hwf2 := ziv (T := T) hwf1; have hxl : xb < w0.heap.size := zaa HTB.out.1.1; have hxr : wr.heap[xb]? = some (.cells #[zaj bs] 62 (0, 0)) := (hm1.keep.keep xb hxl HTB.out.1.2.1 HTB.out.1.2.2.1 HTB.out.1.2.2.2).trans HTB.out.1.1; have cx := zab _ _ 0 _ _ _ hxr; have cb := zab _ _ 0 _ _ _ hm1.box.box; simp only [zLa, zLb] at cx cb
  have hol := hm1.outLen; have lbx := hm1.box.lt; obtain ⟨t, k, x2, hS⟩ : ∃ t k x2, zdO T C x1 = (t, k, x2) := ⟨_, _, _, rfl⟩; rw [hS] at hN hrest1 hwf2; dsimp only at hN hrest1 hwf2; have hxl2 : xb < wr.heap.size := by omega
  have HN := hid hN; have H1 := hid hm1; have H2 := hid hrest1; have H3 := hid hwf2; have H4 := hid hol; clear hN hm1 hrest1 hwf2 hwf1 hbw hxr hS hol; by_cases hk : k = 0
  . subst hk
    gi_wp2_with (first | (refine ⟨trivial, ?_⟩; gi_at_call 25; refine (callsIn_wide.2 HN.out).mono ?_; rintro e w2 ⟨rfl, bv2, hs2, hk2⟩; have hm2 := H1.out.next hs2 hk2; have HM2 := hid hm2; have hy := HY.out bv2 outv1 x2 toks1 (w2.alloc (.cells #[.int .i64 t.rule, .int .i64 t.pos, .int .i64 t.line, .int .i64 t.col, .string t.text] 28)) t 0 (hm2.alloc _) hlt1; obtain ⟨fn, tmps, assign, body, hy1, hy2⟩ := hy; have HY2 := hid hy2; unfold tkV at hy1; rw [zc9] at hy1; dsimp only [tkV]; rw [zc9]; clear hs2 hk2 hm2 hy2))
    refine (HY2.out).mono ?_; rintro e W3 (⟨h0, _⟩ | ⟨_, hlt3, rfl, outv3, hm3⟩ | ⟨_, hlt3, rfl, outv3, hm3⟩)
    . exact absurd rfl h0
    . have HM3 := hid hm3
      clear hm3
      gi_wp2
      go_roundw
      case rel => exact ⟨bv2, outv3, x2, toks1 ++ [t], HM3.out, H3.out, by simp; omega, by have h9 := H2.out; rw [if_neg (by simp)] at h9; rw [<- h9]; congr 1; simp; omega⟩
      case measure => rw [HM3.out.outLen, H4.out, List.length_append, List.length_singleton]; omega
    have HM3 := hid hm3
    clear hm3
    gi_wp2
    refine bodyPost_ret (results_none rfl _ _ _) rfl ?_; refine ⟨⟨_, rfl⟩, bv2, outv3, .inr ?_⟩; have hn0 : n1 = 0 := by omega
    have h9 := H2.out; rw [if_neg (by simp), hn0, allL] at h9; rw [<- h9]; exact ⟨rfl, HM3.out⟩
  have hke := zaS hk
  have HK := hid hk; clear hk
  gi_wp2_with (first | (refine ⟨trivial, ?_⟩; gi_at_call 25; refine (callsIn_wide.2 HN.out).mono ?_; rintro e w2 ⟨rfl, bv2, hs2, hk2⟩; have hm2 := H1.out.next hs2 hk2; have HM2 := hid hm2; have hy := HY.out bv2 outv1 x2 toks1 (w2.alloc (.cells #[.int .i64 t.rule, .int .i64 t.pos, .int .i64 t.line, .int .i64 t.col, .string t.text] 28)) t k (hm2.alloc _) hlt1; obtain ⟨fn, tmps, assign, body, hy1, hy2⟩ := hy; have HY2 := hid hy2; unfold tkV at hy1; rw [hke] at hy1; dsimp only [tkV]; rw [hke]; have HKE := hid hke; clear hs2 hk2 hm2 hy2 hke))
  refine (HY2.out).mono ?_; rintro e W3 (⟨_, rfl, outv3, hm3⟩ | ⟨h0, _⟩ | ⟨h0, _⟩)
  . have HM3 := hid hm3
    clear hm3
    gi_wp2
    refine bodyPost_ret (results_none rfl _ _ _) rfl ?_; refine ⟨⟨_, rfl⟩, bv2, outv3, .inl ?_⟩; have h9 := H2.out; rw [if_pos HK.out] at h9; rw [<- h9]; exact ⟨HK.out, HM3.out⟩
  . exact absurd h0 HK.out
  exact absurd h0 HK.out
end
section
open Go.RowKit Go.Lib
attribute [local go_sem] Oper.semAt_some
def AllO (B C bs bt sb : Nat) (R : List Tk × Nat × Sc) (bv : Value) (w : World) (e : Ending) (w' : World) : Prop :=
 ∃ outv, e = .returned (.tuple #[outv, errV R.2.1]) /\ w'.ownsRow w.heap.size 28 5 outv R.1.length (zbF R.1) /\ ∃ bv', ScX B w' bs bt sb C R.2.2 bv' /\ Keep bs sb bv bv' w w' /\ ∀ g, bv'.ownBlock = some g -> outv.ownBlock ≠ some g
theorem zh9 {w : World} {A B : Nat} {e : TypeId} {size : Nat} {v : Value} {n : Nat} {xs : List Value} (h : w.ownsRow B e size v n xs) (hA : A <= B) : w.ownsRow A e size v n xs := by
 refine ⟨h.1, ?_⟩
 rcases h.2 with hn | ⟨g, cap, cur, rfl, hb, hgg, rest⟩
 . exact .inl hn
 exact .inr ⟨g, cap, cur, rfl, Nat.le_trans hA hb, hgg, rest⟩
theorem zhu {F : Fence} {n : Nat} {P : Program} {fn : FuncId} {tmps : Array Value} {ps : Array Tmp} {assign body : Code} {D l : Nat} {W : World} {args : Array Value} {R : Ending -> World -> Prop} (hF : F.fn fn)
 (hl : W.heap[l]? = some (.loop (recL fn tmps ps assign body D .ready none))) (hs : args.size = ps.size)
 (h : assign.wpIn (F.inRound l) n P (Exit.then (fun a1 W2 => W2.heap[l]? = some (.loop (recL fn tmps ps assign body D .ready none)) /\ ∀ (rec : LoopState -> Option Code -> Loop) (W3 : World), Hid (rec = recL fn tmps ps assign body D) -> Hid (W3 = W2.putObj l (.loop (rec .busy none))) ->
  body.wpIn (F.inRound l) n P (ypost l rec R) a1 W3) (fun _ _ _ => False))
  { tmps := (ps.zip args).foldl (fun t (p, v) => t.setIfInBounds p v) tmps, defers := [] } W) : YieldAt F n P l args W R :=
 yield_own hF hl hs (wpIn_mono h fun e a w hq => by
  cases e with
  | normal => exact ⟨hq.1, hq.2 _ _ (hid rfl) (hid rfl)⟩
  | ret => exact hq
  | exit id => exact hq
  | goto t => exact hq
  | panic c => exact hq
  | outgrown => exact hq)
theorem zj3 {F : Fence} {n : Nat} {P : Program} {l : Nat} {rec : LoopState -> Option Code -> Loop} {Q : Exit -> Act -> World -> Prop} {a : Act} {W : World} (v : Value) (c : Code) (hl : W.heap[l]? = some (.loop (rec .done (some c))))
 (h : ∀ (o : Obj) (W8 : World), Hid (W8 = W.putObj l o) -> c.wpIn F n P Q a W8) : rpost F n P l rec Q a (.returned v) W :=
 ⟨v, .done, c, rfl, by simp, hl, h _ _ (hid rfl)⟩
theorem elemTok : zcp Tryz.prog 24 28 5 48 := zcp.of (z := .agg #[.int .i64 0, .int .i64 0, .int .i64 0, .int .i64 0, .string ⟨#[]⟩]) Tryz.underlying24 (by kernel_rfl) rfl (by decide)
theorem zbt.shut {B bs bt sb C xb : Nat} {w0 : World} {bv0 : Value} {most : Int} {rec : Obj} {bv outv r1 r2 : Value} {x : Sc} {toks : List Tk} {W : World} (h : zbt B bs bt sb C xb w0 bv0 most rec bv outv r1 r2 x toks W) (o : Obj) {k : Nat} {l : List Tk} {y : Sc} (hk : y = x /\ l = toks) :
 (W.putObj (w0.heap.size + 1 + 1 + 1 + 1 + 1) o).cell? ⟨w0.heap.size + 1, 0, none⟩ = some r1 /\ (W.putObj (w0.heap.size + 1 + 1 + 1 + 1 + 1) o).cell? ⟨w0.heap.size + 1 + 1, 0, none⟩ = some r2 /\
 ((r1 = outv /\ r2 = errV k) -> AllO B C bs bt sb (l, k, y) bv0 w0 (.returned (.tuple #[r1, r2])) (W.putObj (w0.heap.size + 1 + 1 + 1 + 1 + 1) o)) := by
 have hl := h.box.lt; obtain ⟨rfl, rfl⟩ := hk; have hk : ∀ b, b ≠ w0.heap.size + 1 + 1 + 1 + 1 + 1 -> (W.putObj (w0.heap.size + 1 + 1 + 1 + 1 + 1) o).heap[b]? = W.heap[b]? := fun b hb => World.putObj_heap_other hb; have e1 := zab _ _ 0 _ _ _ ((hk _ (by omega)).trans h.box.r1); have e2 := zab _ _ 0 _ _ _ ((hk _ (by omega)).trans h.box.r2); simp only [zLa, zLb] at e1 e2; refine ⟨e1, e2, ?_⟩; rintro ⟨rfl, rfl⟩
 refine ⟨r1, rfl, zh9 (zcB h.row fun g hg => hk g (by have := zcQ h.row g hg; omega)) (by omega), bv, ?_, ?_, fun g hg => (h.own g hg).2⟩
 . exact ⟨(hk _ (by have := h.lt; omega)).trans h.st.sc, h.st.buf.kept (fun g hg => hk g (by have := (h.own g hg).1; omega)), h.st.src.below (fun b hb => hk b (by have := h.lt; omega)), h.st.ok, h.st.bB, h.st.own⟩
 exact ⟨h.keep.os, h.keep.tape, h.keep.output, by have := h.keep.size; simpa using this, fun b hb h1 h2 h3 => (hk b (by omega)).trans (h.keep.keep b hb h1 h2 h3), h.keep.new⟩
theorem all_any (T : Tab) (R0 : Nat) (hT : WfT T R0) (BT B : Nat) (w : World) (bs bt sb C bc cc br cr bg cg M xb : Nat) (bv : Value) (most : Nat) (x : Sc)
 (hxb : w.heap[xb]? = some (.cells #[zaj bs] 62 (0, 0)) /\ xb ≠ bs /\ xb ≠ sb /\ bv.ownBlock ≠ some xb) (hTab : zbY BT w bt T bc cc br cr bg cg) (hTabs : Tabs w) (hG : Glob <= BT) (hBT : BT <= sb /\ BT <= bs /\ (∀ g, bv.ownBlock = some g -> BT <= g)) (hC4 : 4 <= C) (hC2 : C <= 900000) (hM : M <= 100000000) (hw : ScWf M C x) (hm : 1 <= most) (hm2 : most <= 100000)
 (h : ScX B w bs bt sb C x bv) :
 Calls Tryz.prog 22 #[zaj xb, .int .i64 most] w (AllO B C bs bt sb (allL T C most x []) bv w) := by
 have h1 : (1 : Int) <= most := by omega
 have H := hid h; refine (callsIn_wide (n := 3)).1 ?_; refine callsIn_of_wp_marks Tryz.func22 rfl trivial ?_ rfl; simp only [Tryz.ntmps22, List.size_toArray, List.length_cons, List.length_nil, Nat.reduceAdd, Nat.reduceSub, Array.replicate_succ, Array.replicate_zero, List.push_toArray, List.append_toArray, List.nil_append, List.cons_append]
 gi_wp2_with (refine ⟨trivial, ?_⟩; gi_at_call 31; refine (callsIn_wide.2 (zk8 xb _)).mono ?_; rintro e w' ⟨rfl, rfl⟩)
 obtain ⟨W5, hW5⟩ : ∃ W5, ((((w.alloc (.cells #[.int .i64 most] 3)).alloc (.cells #[.slice none 0 0] 24)).alloc (.cells #[.nilIface] 34)).alloc (.cells #[.slice none 0 0] 24)).alloc (.cells #[zaj xb] 46) = W5 := ⟨_, rfl⟩; have hsz : W5.heap.size = w.heap.size + 1 + 1 + 1 + 1 + 1 := by rw [<- hW5]; simp
 have hb5 : Below w.heap.size w W5 := by
  rw [<- hW5]; exact (((((Below.refl _ w).alloc (Nat.le_refl _) _).alloc (by simp) _).alloc (by simp; omega) _).alloc (by simp; omega) _).alloc (by simp; omega) _
 have hg : ∀ (k : Nat) (o : Obj), W5.heap[k]? = some o -> k < w.heap.size + 5 := fun k o hk => by have := zaa hk; omega
 have p0 : W5.heap[w.heap.size]? = some (.cells #[.int .i64 most] 3 (0, 0)) := by
  rw [<- hW5, zau _ _ _ (by simp <;> omega), zau _ _ _ (by simp <;> omega), zau _ _ _ (by simp <;> omega), zau _ _ _ (by simp)]; exact zaB _ _ _ rfl
 have p1 : W5.heap[w.heap.size + 1]? = some (.cells #[.slice none 0 0] 24 (0, 0)) := by
  rw [<- hW5, zau _ _ _ (by simp <;> omega), zau _ _ _ (by simp <;> omega), zau _ _ _ (by simp)]; exact zaB _ _ _ (by simp)
 have p2 : W5.heap[w.heap.size + 1 + 1]? = some (.cells #[.nilIface] 34 (0, 0)) := by
  rw [<- hW5, zau _ _ _ (by simp <;> omega), zau _ _ _ (by simp)]; exact zaB _ _ _ (by simp)
 have p3 : W5.heap[w.heap.size + 1 + 1 + 1]? = some (.cells #[.slice none 0 0] 24 (0, 0)) := by
  rw [<- hW5, zau _ _ _ (by simp)]; exact zaB _ _ _ (by simp)
 have p4 : W5.heap[w.heap.size + 1 + 1 + 1 + 1]? = some (.cells #[zaj xb] 46 (0, 0)) := by
  rw [<- hW5]; exact zaB _ _ _ (by simp)
 rw [hW5]; clear hW5; refine range_own rfl (by omega) (gf := 50) (lb := #[.pointer (some ⟨w.heap.size + 1 + 1 + 1 + 1, 0, none⟩)]) rfl trivial (enters_of Tryz.func50 (by kernel_rfl) rfl) ?_; intro fn _; rw [hsz]; have hb7 : ∀ o : Obj, Below w.heap.size w ((W5.alloc (.deferred (some []))).alloc o) := fun o => (hb5.alloc (by omega) _).alloc (by simp; omega) _; have hbox : ∀ o : Obj, ziy w.heap.size xb most o (.slice none 0 0) (.slice none 0 0) .nilIface ((W5.alloc (.deferred (some []))).alloc o) := by
  intro o; have hk : ∀ b, b < W5.heap.size -> ((W5.alloc (.deferred (some []))).alloc o).heap[b]? = W5.heap[b]? := fun b hb => (zau _ _ _ (by simp <;> omega)).trans (zau _ _ _ hb); refine ⟨(hk _ (by omega)).trans p0, (hk _ (by omega)).trans p1, (hk _ (by omega)).trans p2, (hk _ (by omega)).trans p3, (hk _ (by omega)).trans p4, ?_, ?_⟩
  . rw [zau _ _ _ (by simp <;> omega)]; exact zaB _ _ _ hsz.symm
  exact zaB _ _ _ (by simp; omega)
 have hmem : ∀ o : Obj, zbt B bs bt sb C xb w bv most o bv (.slice none 0 0) (.slice none 0 0) .nilIface x [] ((W5.alloc (.deferred (some []))).alloc o) := fun o =>
  ⟨H.out.below (hb7 o), Keep.of_below (hb7 o), hbox o, World.ownsRow_nil _ _ _ _, fun g hg => ⟨.inl (H.out.buf.lt g hg), fun e => by cases e⟩, by have := H.out.lt; omega⟩
 refine (iter_any T R0 hT BT B w bs bt sb C bc cc br cr bg cg M xb bv most _ x _ bv hxb hTab hTabs hG hBT hC4 hC2 hM hw hm ?hY (hmem _)).mono ?hZ
 case hY =>
  clear hmem hbox hb7 hb5 hsz p0 p1 p2 p3 p4 hg; intro bv1 outv1 x1 toks1 W1 t k hm1 hlt1; have HM := hid hm1; have hlL := hm1.box.lt; by_cases hk : k = 0
  . subst hk
    rw [zc9]; unfold tkV; refine zhu trivial hm1.box.ll rfl ?_; clear hm1
    gi_wp2
    refine ⟨(HM.out.alloc _).box.ll, ?_⟩; intro rec W3 hrec hW3; have hm3 : zbt B bs bt sb C xb w bv most (.loop (rec .busy none)) bv1 outv1 (.slice none 0 0) .nilIface x1 toks1 W3 := by rw [hW3.out]; exact (HM.out.alloc _).put _
    have ht3 : W3.heap[W1.heap.size]? = some (.cells #[.int .i64 t.rule, .int .i64 t.pos, .int .i64 t.line, .int .i64 t.col, .string t.text] 28 (0, 0)) := by
     rw [hW3.out, World.putObj_heap_other (by omega)]; exact zaB _ _ _ rfl
    have q0 := zab _ _ 0 _ _ _ ht3; have q1 := zab _ _ 1 _ _ _ ht3; have q2 := zab _ _ 2 _ _ _ ht3; have q3 := zab _ _ 3 _ _ _ ht3; have q4 := zab _ _ 4 _ _ _ ht3; have co := zab _ _ 0 _ _ _ hm3.box.out; have cm := zab _ _ 0 _ _ _ hm3.box.most; have fo := zae _ _ 0 _ _ hm3.box.out; simp only [zLa, zLb, zLc] at q0 q1 q2 q3 q4 co cm; have l3 := zaa ht3; have lb3 := hm3.box.lt; have HM3 := hid hm3; obtain ⟨_, ⟨ie, ze, hi1, hi2, hi3, hi4, hi5⟩, _⟩ := elemTok; clear hm3 ht3
    gi_wp2_with (gi_at_builtin; refine wpListIn_append_own _ rfl _ _ 24 rfl (w.heap.size + 7) 28 ie ze 5 48 Tryz.underlying24 hi1 hi2 hi3 hi4 hi5 (by decide) _ _ _ rfl (by exact (HM3.out.alloc _).row) ⟨W3.heap.size, 0, none⟩ 1 1 [.int .i64 t.rule, .int .i64 t.pos, .int .i64 t.line, .int .i64 t.col, .string t.text] rfl rfl (zaD _ #[.int .i64 t.rule, .int .i64 t.pos, .int .i64 t.line, .int .i64 t.col, .string t.text] _ _ rfl) (by simp [Value.oneCell']) (by unfold maxLen; omega) (by omega) (by have := HM3.out.box.lt; simp; omega) ?_; intro v4 w4 hown4 hgr4 _; obtain ⟨g4, cap4, rfl⟩ := ownsRow_succ hown4; obtain ⟨hb4, hm4⟩ := HM3.out.app _ hown4 hgr4; have co4 := zab _ _ 0 _ _ _ hb4; simp only [zLa, zLb] at co4; have fo4 := zae _ _ 0 _ _ hb4; have cm4 := zab _ _ 0 _ _ _ hm4.box.most; simp only [zLa, zLb] at cm4; have HM4 := hid hm4; clear hb4 hm4 hown4 hgr4)
    . have hf : (((toks1.length : Int) + 1) == (most : Int)) = true := by assumption
      have hf2 : toks1.length + 1 = most := by have := eq_of_beq hf; omega
      have hm4 := HM4.out; clear HM4; obtain rfl := hrec.out; exact ⟨hm4.box.ll, .inr (.inr ⟨rfl, hf2, rfl, _, hm4.put _⟩)⟩
    have hf : (((toks1.length : Int) + 1) == (most : Int)) = false := by assumption
    have hf2 : toks1.length + 1 < most := by have := ne_of_beq_false hf; omega
    have hm4 := HM4.out; clear HM4; obtain rfl := hrec.out; exact ⟨hm4.box.ll, .inr (.inl ⟨rfl, hf2, rfl, _, hm4.put _⟩)⟩
  . obtain ⟨ao1, n1, cap1, rfl⟩ : ∃ ao n cap, outv1 = .slice ao n cap := by
     rcases hm1.row.2 with ⟨rfl, _⟩ | ⟨g, cap, cur, rfl, _⟩
     . exact ⟨_, _, _, rfl⟩
     exact ⟨_, _, _, rfl⟩
    rw [zaS hk]; unfold tkV; refine zhu trivial hm1.box.ll rfl ?_; clear hm1
    gi_wp2
    refine ⟨(HM.out.alloc _).box.ll, ?_⟩; intro rec W3 hrec hW3; have hm3 : zbt B bs bt sb C xb w bv most (.loop (rec .busy none)) bv1 (.slice ao1 n1 cap1) (.slice none 0 0) .nilIface x1 toks1 W3 := by rw [hW3.out]; exact (HM.out.alloc _).put _
    have co := zab _ _ 0 _ _ _ hm3.box.out; have fo := zae _ _ 0 _ _ hm3.box.out; have c1 := zab _ _ 0 _ _ _ hm3.box.r1; have f1 := zae _ _ 0 _ _ hm3.box.r1; have c2 := zab _ _ 0 _ _ _ hm3.box.r2; have f2 := zae _ _ 0 _ _ hm3.box.r2; simp only [zLa, zLb, zLc] at co c1 c2; have lb3 := hm3.box.lt; have HM3 := hid hm3; have HK := hid hk; clear hm3 hk
    gi_wp2
    have hm4 := ((HM3.out.set1 (.slice ao1 n1 cap1)).set2 (.iface 51 (.int .i64 k))); obtain rfl := hrec.out; refine ⟨hm4.box.ll, .inl ⟨HK.out, rfl, .slice ao1 n1 cap1, ?_⟩⟩; rw [zaS HK.out]; exact hm4.put _
 case hZ =>
  obtain ⟨R, hR⟩ : ∃ R, R = allL T C most x [] := ⟨_, rfl⟩; have HR := hid hR; rw [<- hR]; clear hR hmem hbox hb7 hb5 p0 p1 p2 p3 p4 hg; rintro e W9 ⟨⟨v, rfl⟩, bv9, outv9, (⟨hk9, hm9⟩ | ⟨hk9, hm9⟩)⟩
  . refine zj3 v .ret hm9.box.ll ?_
    intro o W8 hW8; have hm8 : zbt B bs bt sb C xb w bv most o bv9 outv9 outv9 (errV R.2.1) R.2.2 R.1 W8 := by rw [hW8.out]; exact hm9.put o
    clear hm9; have HM8 := hid hm8; clear hm8
    gi_wp2
    refine ⟨by simp, .inl ⟨_, _, rfl, run_takeDeferred HM8.out.box.dd, ?_⟩⟩; obtain ⟨e1, e2, e3⟩ := HM8.out.shut (.deferred none) (k := R.2.1) (l := R.1) (y := R.2.2) ⟨rfl, rfl⟩; refine ⟨.tuple #[outv9, errV R.2.1], ?_, e3 ⟨rfl, rfl⟩⟩; simp [results, Tryz.results22, go_sem, e1, e2]
  refine zj3 v (.exit 0) hm9.box.ll ?_
  intro o W8 hW8; have hm8 : zbt B bs bt sb C xb w bv most o bv9 outv9 (.slice none 0 0) .nilIface R.2.2 R.1 W8 := by rw [hW8.out]; exact hm9.put o
  clear hm9; obtain ⟨ao1, n1, cap1, rfl⟩ : ∃ ao n cap, outv9 = .slice ao n cap := by
   rcases hm8.row.2 with ⟨rfl, _⟩ | ⟨g, cap, cur, rfl, _⟩
   . exact ⟨_, _, _, rfl⟩
   exact ⟨_, _, _, rfl⟩
  have co := zab _ _ 0 _ _ _ hm8.box.out; have c1 := zab _ _ 0 _ _ _ hm8.box.r1; have f1 := zae _ _ 0 _ _ hm8.box.r1; have c2 := zab _ _ 0 _ _ _ hm8.box.r2; have f2 := zae _ _ 0 _ _ hm8.box.r2; simp only [zLa, zLb, zLc] at co c1 c2; have HM8 := hid hm8; have hm7 := (hm8.set1 (.slice ao1 n1 cap1)).set2 .nilIface; have HM7 := hid hm7; clear hm8 hm7
  gi_wp2
  refine ⟨by simp, .inl ⟨_, _, rfl, run_takeDeferred HM7.out.box.dd, ?_⟩⟩; obtain ⟨e1, e2, e3⟩ := HM7.out.shut (.deferred none) (k := R.2.1) (l := R.1) (y := R.2.2) ⟨rfl, rfl⟩; refine ⟨.tuple #[.slice ao1 n1 cap1, .nilIface], ?_, by rw [<- HR.out]; exact e3 ⟨rfl, by rw [hk9, zc9]⟩⟩; simp [results, Tryz.results22, go_sem, e1, e2]
end
end Go.Proofs.YtghpmhllpaheiaaGreatDoor
