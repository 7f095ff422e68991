/-
  Part of the proof: Tree. No condition beyond those in the statements.
-/
import Derived.Deep.RegionWith
import Derived.Test.YtghpmhllpaheiaaGreatDoorL11
set_option linter.unusedVariables false
set_option linter.unusedSimpArgs false
set_option maxRecDepth 100000
set_option maxHeartbeats 4000000
namespace Go.Proofs.YtghpmhllpaheiaaGreatDoor
open Go.RowKit Go.Lib
mutual
def zar (S : Nat -> Prop) (w : World) : Tree -> Value -> Prop
 | .cls l, v => ∃ sl, v = .iface 200 sl /\ zbq w sl l /\ (∀ g, sl.ownBlock = some g -> S g)
 | .row l, v => ∃ sl vs, v = .iface 202 sl /\ w.ownsRow 0 138 1 sl l.length vs /\ (∀ g, sl.ownBlock = some g -> S g) /\ zaC S w l vs
 | .either a b, v => ∃ va vb, v = .iface 204 (.agg #[va, vb]) /\ zar S w a va /\ zar S w b vb
 | .rep t m o, v => ∃ vt, v = .iface 206 (.agg #[vt, .int .i64 m, .bool o]) /\ zar S w t vt
def zaC (S : Nat -> Prop) (w : World) : List Tree -> List Value -> Prop
 | [], vs => vs = []
 | t :: l, vs => ∃ v r, vs = v :: r /\ zar S w t v /\ zaC S w l r
end
mutual
theorem zar.ext {S T : Nat -> Prop} {w w' : World} (hS : ∀ g, S g -> T g) (h : ∀ g, S g -> g < w.heap.size -> w'.heap[g]? = w.heap[g]?) : ∀ (t : Tree) (v : Value), zar S w t v -> zar T w' t v
 | .cls l, v, hv => by
  simp only [zar] at hv ⊢; obtain ⟨sl, h1, h2, h3⟩ := hv; exact ⟨sl, h1, zaI h2 (fun g hg => h g (h3 g hg) (h2.lt g hg).2), fun g hg => hS g (h3 g hg)⟩
 | .row l, v, hv => by
  simp only [zar] at hv ⊢; obtain ⟨sl, vs, h1, h2, h3, h4⟩ := hv; exact ⟨sl, vs, h1, zaI h2 (fun g hg => h g (h3 g hg) (h2.lt g hg).2), fun g hg => hS g (h3 g hg), zaC.ext hS h l vs h4⟩
 | .either a b, v, hv => by
  simp only [zar] at hv ⊢; obtain ⟨va, vb, h1, h2, h3⟩ := hv; exact ⟨va, vb, h1, zar.ext hS h a va h2, zar.ext hS h b vb h3⟩
 | .rep t m o, v, hv => by
  simp only [zar] at hv ⊢; obtain ⟨vt, h1, h2⟩ := hv; exact ⟨vt, h1, zar.ext hS h t vt h2⟩
theorem zaC.ext {S T : Nat -> Prop} {w w' : World} (hS : ∀ g, S g -> T g) (h : ∀ g, S g -> g < w.heap.size -> w'.heap[g]? = w.heap[g]?) : ∀ (l : List Tree) (vs : List Value), zaC S w l vs -> zaC T w' l vs
 | [], vs, hv => by
  simp only [zaC] at hv ⊢; exact hv
 | t :: l, vs, hv => by
  simp only [zaC] at hv ⊢; obtain ⟨v, r, h1, h2, h3⟩ := hv; exact ⟨v, r, h1, zar.ext hS h t v h2, zaC.ext hS h l r h3⟩
end
theorem zaC.len {S : Nat -> Prop} {w : World} : ∀ {l : List Tree} {vs : List Value}, zaC S w l vs -> vs.length = l.length
 | [], vs, h => by simp only [zaC] at h; subst h; rfl
 | t :: l, vs, h => by
  simp only [zaC] at h; obtain ⟨v, r, rfl, _, h3⟩ := h; simp [h3.len]
theorem zaC.get {S : Nat -> Prop} {w : World} : ∀ {l : List Tree} {vs : List Value}, zaC S w l vs -> ∀ (k : Nat) (t : Tree), l[k]? = some t -> ∃ v, vs[k]? = some v /\ zar S w t v
 | [], vs, h, k, t, hk => by simp at hk
 | u :: l, vs, h, k, t, hk => by
  simp only [zaC] at h; obtain ⟨v, r, rfl, h2, h3⟩ := h; cases k with
  | zero => simp at hk; subst hk; exact ⟨v, rfl, h2⟩
  | succ k => simp at hk; simpa using h3.get k t hk
theorem zaC.snoc {S : Nat -> Prop} {w : World} {t : Tree} {v : Value} : ∀ {l : List Tree} {vs : List Value}, zaC S w l vs -> zar S w t v -> zaC S w (l ++ [t]) (vs ++ [v])
 | [], vs, h, ht => by
  simp only [zaC] at h; subst h; exact ⟨v, [], rfl, ht, rfl⟩
 | u :: l, vs, h, ht => by
  simp only [zaC] at h; obtain ⟨x, r, rfl, h2, h3⟩ := h; exact ⟨x, r ++ [v], rfl, h2, h3.snoc ht⟩
theorem zar.below {S : Nat -> Prop} {w w' : World} {t : Tree} {v : Value} (h : zar S w t v) (hb : Below w.heap.size w w') : zar S w' t v := h.ext (fun _ h => h) (fun g _ hg => hb.block g hg)
theorem zaC.below {S : Nat -> Prop} {w w' : World} {t : List Tree} {v : List Value} (h : zaC S w t v) (hb : Below w.heap.size w w') : zaC S w' t v := h.ext (fun _ h => h) (fun g _ hg => hb.block g hg)
def plF : Tree -> FuncId
 | .cls _ => 216
 | .row _ => 217
 | .either _ _ => 218
 | .rep _ _ _ => 219
mutual
theorem zct : ∀ t : Tree, 0 <= zaO t /\ zaO t <= 100
 | .cls _ => by simp [zaO]
 | .row l => by rw [zaO]; exact zfj l 0 (by omega) (by omega)
 | .either a b => by
  have := zct a; have := zct b; rw [zaO]; omega
 | .rep t _ _ => by rw [zaO]; exact zct t
theorem zfj : ∀ (l : List Tree) (n : Int), 0 <= n -> n <= 100 -> 0 <= zbI l n /\ zbI l n <= 100
 | [], n, h1, h2 => by rw [zbI]; exact ⟨h1, h2⟩
 | t :: l, n, h1, h2 => by
  have := zct t; rw [zbI]; exact zfj l _ (by omega) (by omega)
end
theorem zfQ : ∀ (l : List Tree) (t : Tree) (n : Int), zbI (l ++ [t]) n = min 100 (zbI l n + zaO t)
 | [], t, n => by simp [zbI]
 | u :: l, t, n => by simp only [List.cons_append, zbI]; exact zfQ l t _
def plT : Tree -> TypeId
 | .cls _ => 200
 | .row _ => 202
 | .either _ _ => 204
 | .rep _ _ _ => 206
def PlC (t : Tree) : Prop := ∀ (v : Value) (S : Nat -> Prop) (w : World), zar S w t v -> ∃ x, v = .iface (plT t) x /\ Calls Tryz.prog (plF t) #[x] w fun r w' => r = .returned (.int .i64 (zaO t)) /\ Below w.heap.size w w'
theorem pl_cls (l : List (Int × Int)) : PlC (.cls l) := by
 intro v S w h; simp only [zar] at h; obtain ⟨sl, rfl, h2, _⟩ := h; refine ⟨_, rfl, ?_⟩; unfold plF; clear h2; go_enter Tryz.func216, Tryz.ntmps216; go_wp2; go_ret; exact ⟨rfl, Below.refl _ _⟩
theorem zb6 {B : Nat} {a b : World} (h : Below B a b) (n : Nat) : Below B a (b.drewN n) := ⟨h.os, h.tape, h.output, h.size, h.block⟩
theorem zbz (t : Tree) (n : Nat) (x : Value) (w : World) : (method (n + 1) (plT t) x "Places").run Tryz.prog w = .ok (plF t, x) w := by
 cases t <;> simp only [plT, plF] <;> go_invoke <;> rfl
theorem zbA (t : Tree) (x : Array Value) (w : World) : (callFunc (plF t) x).run Tryz.prog w = .ok (.enter (plF t) x) w := by
 cases t <;> simp only [plF] <;> kernel_rfl
theorem pl_rep (t : Tree) (m : Int) (o : Bool) (ih : PlC t) : PlC (.rep t m o) := by
 intro v S w h; simp only [zar] at h; obtain ⟨vt, rfl, h2⟩ := h; refine ⟨_, rfl, ?_⟩; have h3 := h2.below ((Below.refl _ w).alloc (Nat.le_refl _) (.cells #[vt, .int .i64 m, .bool o] 206)); have ih3 := ih vt S _ h3; have hpl : zaO (.rep t m o) = zaO t := by rw [zaO]
 have hb0 : Below w.heap.size w (w.alloc (.cells #[vt, .int .i64 m, .bool o] 206)) := (Below.refl _ w).alloc (Nat.le_refl _) _; rw [hpl]; clear ih h3 hpl; show Calls Tryz.prog 219 _ _ _; obtain ⟨x, rfl, hc⟩ := ih3; have HC := hid hc; clear h2 hc; go_enter Tryz.func219, Tryz.ntmps219; go_wp2_with (first | (rw [zbz]; go_upon) | (rw [zbA]; go_simp) | (refine HC.out.mono ?_; rintro e w2 ⟨rfl, hb2⟩)); go_ret; exact ⟨rfl, hb0.trans (hb2.mono hb0.size)⟩
theorem pl_either (a b : Tree) (iha : PlC a) (ihb : PlC b) : PlC (.either a b) := by
 intro v S w h; simp only [zar] at h; obtain ⟨va, vb, rfl, h2, h3⟩ := h; refine ⟨_, rfl, ?_⟩; have hb0 : Below w.heap.size w (w.alloc (.cells #[va, vb] 204)) := (Below.refl _ w).alloc (Nat.le_refl _) _; obtain ⟨xa, rfl, _⟩ := iha va S w h2; obtain ⟨xb, rfl, _⟩ := ihb vb S w h3; have ca : ∀ w', Below w.heap.size w w' -> Calls Tryz.prog (plF a) #[xa] w' fun r w2 => r = .returned (.int .i64 (zaO a)) /\ Below w'.heap.size w' w2 := by
  intro w' hb; obtain ⟨_, h, hc⟩ := iha _ S w' (h2.below hb); cases h; exact hc
 have cb : ∀ w', Below w.heap.size w w' -> Calls Tryz.prog (plF b) #[xb] w' fun r w2 => r = .returned (.int .i64 (zaO b)) /\ Below w'.heap.size w' w2 := by
  intro w' hb; obtain ⟨_, h, hc⟩ := ihb _ S w' (h3.below hb); cases h; exact hc
 have hpl : zaO (.either a b) = min 100 (zaO a + zaO b) := by rw [zaO]
 have ha := zct a; have hb := zct b; rw [hpl]; clear iha ihb hpl h2 h3; generalize zaO a = pa at *; generalize zaO b = pb at *; have hw : IntKind.i64.wrap (pa + pb) = pa + pb := by go_arith
 have CA := hid ca; have CB := hid cb; clear ca cb; show Calls Tryz.prog 218 _ _ _; go_enter Tryz.func218, Tryz.ntmps218; go_wp2; have hc1 : ∀ w2 n, Below ((w.alloc (.cells #[Value.iface (plT a) xa, Value.iface (plT b) xb] 204)).drewN n).heap.size ((w.alloc (.cells #[Value.iface (plT a) xa, Value.iface (plT b) xb] 204)).drewN n) w2 -> w2.cell? ⟨w.heap.size, 1, none⟩ = some (.iface (plT b) xb) := by
  intro w2 n h; rw [h.cell (p := ⟨w.heap.size, 1, none⟩) (by simp [World.drewN])]; exact zab _ _ _ _ _ (0, 0) ((zap w (.cells #[Value.iface (plT a) xa, Value.iface (plT b) xb] 204) w.heap.size).trans (if_pos rfl))
 go_region_with (first | (rw [zbz]; go_upon) | (rw [zbA]; go_simp) | (refine (CA.out _ (by exact zb6 hb0 1)).mono ?_; rintro e w2 ⟨rfl, hb2⟩; have f1 := hc1 _ 1 hb2) | (refine (CB.out _ (by exact (zb6 hb0 1).trans (‹Below _ _ _›.mono (zb6 hb0 1).size))).mono ?_; rintro e w3 ⟨rfl, hb3⟩))
 all_goals go_wp2
 all_goals go_ret
 all_goals exact ⟨(by first | (show Ending.returned (Value.int _ (pa + pb)) = _; congr 2; simp only [hw] at *; omega) | (show Ending.returned (Value.int _ 100) = _; congr 2; simp only [hw] at *; omega)), (zb6 hb0 1).trans ((hb2.mono (zb6 hb0 1).size).trans (hb3.mono (Nat.le_trans (zb6 hb0 1).size hb2.size)))⟩
theorem zjV (l : List Tree) (k : Nat) (t : Tree) (h : l[k]? = some t) : zbI (l.take (k + 1)) 0 = min 100 (zbI (l.take k) 0 + zaO t) := by
 rw [List.take_add_one, h]; exact zfQ _ _ _
theorem pl_row (l : List Tree) (ih : ∀ t ∈ l, PlC t) : PlC (.row l) := by
 intro v S w h; simp only [zar] at h; obtain ⟨sl, vs, rfl, h2, h3, h4⟩ := h; refine ⟨_, rfl, ?_⟩; have hpl : zaO (.row l) = zbI l 0 := by rw [zaO]
 have IH := hid ih; have H2 := hid h2; have H4 := hid h4; have hform := zaG h2; have hmax : (l.length : Int) <= 9223372036854775807 := by
  have : l.length <= maxLen := by rcases h2.2 with ⟨_, h⟩ | ⟨_, _, _, _, _, _, h, h', _⟩ <;> omega
  unfold maxLen at this; omega
 rw [hpl]; clear ih h2 h3 h4 hpl; show Calls Tryz.prog 217 _ _ _
 rcases hform with ⟨rfl, hn⟩ | ⟨g, cap, rfl, hcap, hg⟩
 . have hl0 : l = [] := List.eq_nil_of_length_eq_zero hn
   subst hl0; go_enter Tryz.func217, Tryz.ntmps217; go_wp2; refine wp_loop_rounds 1 ?_; rw [rounds_succ]; go_wp2; go_ret; exact ⟨by rw [zbI]; rfl, Below.refl _ _⟩
 go_enter Tryz.func217, Tryz.ntmps217
 go_wp2; go_loopw [2, 7] (fun o i wr => ∃ (k : Nat), k <= l.length /\ i = .int .i64 k /\ o = .int .i64 (zbI (l.take k) 0) /\ Below w.heap.size w wr) (fun _ i _ => l.length - (RowKit.intOf i).toNat)
 case atStart => exact ⟨0, by omega, rfl, by rw [List.take_zero, zbI], Below.refl _ _⟩
 case round =>
  obtain ⟨k, hk, rfl, rfl, hB⟩ := hrel; by_cases hlt : k < l.length
  . have hz : (k : Int) < (l.length : Int) := by omega
    obtain ⟨t, ht⟩ : ∃ t, l[k]? = some t := ⟨l[k], zLe hlt⟩; obtain ⟨u, hu, hu2⟩ := H4.out.get k t ht; have c0 := zax (za6 H2.out hB) _ _ hu; obtain ⟨x, rfl, hc⟩ := IH.out t (List.mem_of_getElem? ht) _ S wr (hu2.below hB); have hps := zjV l k t ht; have hp1 := zfj (l.take k) 0 (by omega) (by omega); have hp2 := zct t; have HPS := hid hps; have HC := hid hc; have HB := hid hB; generalize hA : zbI (l.take k) 0 = pa at *; generalize hT : zaO t = pt at *; have hw : IntKind.i64.wrap (pa + pt) = pa + pt := by go_arith
    clear hps hc hB ht hu hu2 hA hT; go_wp2_with (first | (rw [zbz]; go_upon) | (rw [zbA]; go_simp) | (refine HC.out.mono ?_; rintro e w2 ⟨rfl, hb2⟩)); go_roundw
    case rel => exact ⟨k + 1, by omega, by go_num, by rw [HPS.out]; congr 1; omega, HB.out.trans (hb2.mono HB.out.size)⟩
    case measure => simp [RowKit.intOf]; omega
  go_wp2
  go_ret; have hk2 : k = l.length := by omega
  subst hk2; rw [List.take_length]; exact ⟨rfl, hB⟩
theorem zcP : ∀ t : Tree, PlC t
 | .cls l => pl_cls l
 | .row l => pl_row l (fun t ht => zcP t)
 | .either a b => pl_either a b (zcP a) (zcP b)
 | .rep t m o => pl_rep t m o (zcP t)
end Go.Proofs.YtghpmhllpaheiaaGreatDoor
