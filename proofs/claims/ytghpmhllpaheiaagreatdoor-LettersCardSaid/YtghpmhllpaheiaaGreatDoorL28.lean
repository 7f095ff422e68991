/-
  Part of the proof: Kp2, Kp3, Kp4, Sm1, Kp5. No condition beyond those in the statements.
-/
import Derived.Test.YtghpmhllpaheiaaGreatDoorL26
import Derived.Test.YtghpmhllpaheiaaGreatDoorL27
import Derived.Test.YtghpmhllpaheiaaGreatDoorL25
set_option linter.unusedVariables false
set_option linter.unusedSimpArgs false
set_option maxRecDepth 100000
set_option maxHeartbeats 4000000
namespace Go.Proofs.YtghpmhllpaheiaaGreatDoor
section
open Go.RowKit Go.Lib
structure Gl (w : World) : Prop where
 tabs : Tabs w
 wid : Wid w
 err : ErrT w
 size : Glob <= w.heap.size
theorem Gl.below {w w' : World} (h : Gl w) {B : Nat} (hb : Below B w w') (hB : Glob <= B) : Gl w' :=
 ⟨zaL h.tabs hb hB, h.wid.below hb hB, h.err.below hb (by unfold Glob at hB; omega), Nat.le_trans h.size hb.size⟩
theorem Gl.later {w w' : World} (h : Gl w) (hb : Below w.heap.size w w') : Gl w' := h.below hb h.size
theorem Gl.pos {w : World} (h : Gl w) : 0 < w.heap.size := by have := h.size; unfold Glob at this; omega
structure RdyS (N BT : Nat) (T : Tab) (C xb : Nat) (x : Sc) (ov : Value) (w : World) (B bs bt sb bc cc br cr bg cg : Nat) (bv : Value) : Prop where
 st : ScX B w bs bt sb C x bv
 hx : w.heap[xb]? = some (.cells #[zaj bs] 62 (0, 0))
 xne : xb ≠ bs /\ xb ≠ sb /\ bv.ownBlock ≠ some xb
 tab : zbY BT w bt T bc cc br cr bg cg
 glob : Glob <= BT
 low : BT <= N /\ N <= sb /\ N <= bs /\ ∀ g, bv.ownBlock = some g -> N <= g
 ov : ∀ g, ov.ownBlock = some g -> g ≠ bs /\ g ≠ sb /\ bv.ownBlock ≠ some g /\ g < w.heap.size
def Rdy (N BT : Nat) (T : Tab) (C xb : Nat) (x : Sc) (ov : Value) (w : World) : Prop := ∃ B bs bt sb bc cc br cr bg cg bv, RdyS N BT T C xb x ov w B bs bt sb bc cc br cr bg cg bv
section
variable {N BT : Nat} {T : Tab} {C xb : Nat} {x x' : Sc} {ov : Value} {w w' : World} {B bs bt sb bc cc br cr bg cg : Nat} {bv bv' : Value}
theorem RdyS.size (h : RdyS N BT T C xb x ov w B bs bt sb bc cc br cr bg cg bv) : N <= w.heap.size := by
 have := h.st.lt; have := h.low; omega
theorem RdyS.kb (h : RdyS N BT T C xb x ov w B bs bt sb bc cc br cr bg cg bv) (hk : Keep bs sb bv bv' w w') : Below N w w' := hk.below h.size h.low.2.2.1 h.low.2.1 h.low.2.2.2
theorem RdyS.next (h : RdyS N BT T C xb x ov w B bs bt sb bc cc br cr bg cg bv) (hs : ScX B w' bs bt sb C x' bv') (hk : Keep bs sb bv bv' w w') {ov' : Value} (ho : ∀ g, ov'.ownBlock = some g -> g ≠ bs /\ g ≠ sb /\ bv'.ownBlock ≠ some g /\ g < w'.heap.size) :
 RdyS N BT T C xb x' ov' w' B bs bt sb bc cc br cr bg cg bv' := by
 have hl := zaa h.hx; have hb := h.kb hk; have hz := h.size; refine ⟨hs, (hk.keep xb hl h.xne.1 h.xne.2.1 h.xne.2.2).trans h.hx, ⟨h.xne.1, h.xne.2.1, fun e => ?_⟩, h.tab.below (hb.mono h.low.1), h.glob, ⟨h.low.1, h.low.2.1, h.low.2.2.1, fun g hg => ?_⟩, ho⟩
 . rcases hk.new xb e with e' | e'
   . exact h.xne.2.2 e'
   omega
 rcases hk.new g hg with e' | e'
 . exact h.low.2.2.2 g e'
 omega
theorem RdyS.apart (h : RdyS N BT T C xb x ov w B bs bt sb bc cc br cr bg cg bv) (hk : Keep bs sb bv bv' w w') : ∀ g, ov.ownBlock = some g -> (g ≠ bs /\ g ≠ sb /\ bv'.ownBlock ≠ some g /\ g < w'.heap.size) /\ w'.heap[g]? = w.heap[g]? := fun g hg => by
 have ho := h.ov g hg; refine ⟨⟨ho.1, ho.2.1, fun e => ?_, zLd ho.2.2.2 hk.size⟩, hk.keep g ho.2.2.2 ho.1 ho.2.1 ho.2.2.1⟩
 rcases hk.new g e with e' | e'
 . exact ho.2.2.1 e'
 omega
theorem RdyS.below (h : RdyS N BT T C xb x ov w B bs bt sb bc cc br cr bg cg bv) (hb : Below w.heap.size w w') : RdyS N BT T C xb x ov w' B bs bt sb bc cc br cr bg cg bv :=
 ⟨h.st.below hb, (hb.block xb (zaa h.hx)).trans h.hx, h.xne, h.tab.below (hb.mono (Nat.le_trans h.low.1 h.size)), h.glob, h.low, fun g hg => ⟨(h.ov g hg).1, (h.ov g hg).2.1, (h.ov g hg).2.2.1, zLd (h.ov g hg).2.2.2 hb.size⟩⟩
theorem Rdy.below (h : Rdy N BT T C xb x ov w) (hb : Below w.heap.size w w') : Rdy N BT T C xb x ov w' := by
 obtain ⟨B, bs, bt, sb, bc, cc, br, cr, bg, cg, bv, h⟩ := h; exact ⟨B, bs, bt, sb, bc, cc, br, cr, bg, cg, bv, h.below hb⟩
theorem Rdy.drop (h : Rdy N BT T C xb x ov w) : Rdy N BT T C xb x (.slice none 0 0) w := by
 obtain ⟨B, bs, bt, sb, bc, cc, br, cr, bg, cg, bv, h⟩ := h; exact ⟨B, bs, bt, sb, bc, cc, br, cr, bg, cg, bv, h.st, h.hx, h.xne, h.tab, h.glob, h.low, fun g hg => by cases hg⟩
end
def x0 (S : Src) : Sc := ⟨⟨#[]⟩, 0, 0, 0, 1, 1, S⟩
theorem x0_wf {M C : Nat} {S : Src} (h : zdN S <= M) : ScWf M C (x0 S) := ⟨Nat.zero_le _, Int.le_refl _, (by decide : (1 : Int) <= 1 /\ (1 : Int) <= 0 + 1), (by decide : (1 : Int) <= 1 /\ (1 : Int) <= 0 + 1), by show (0 : Int) + ((0 + zdN S : Nat) : Int) <= M; omega⟩
theorem rdy_scan {N BT B : Nat} {T : Tab} {bt sb C bc cc br cr bg cg : Nat} {S : Src} {w w' : World} {e : Ending} (h : ScanO B bt sb C S w e w') (ht : zbY BT w bt T bc cc br cr bg cg) (hG : Glob <= BT) (hN : BT <= N /\ N <= sb) (hB : N <= w.heap.size) :
 ∃ xb, e = .returned (.tuple #[zaj xb, .nilIface]) /\ Rdy N BT T C xb (x0 S) (.slice none 0 0) w' /\ Below w.heap.size w w' /\ xb < w'.heap.size := by
 obtain ⟨bs, xb, rfl, hst, hxb, h1, h2, hb⟩ := h; have hsb := hst.lt; refine ⟨xb, rfl, ⟨B, bs, bt, sb, bc, cc, br, cr, bg, cg, _, hst, hxb, ⟨by omega, by have := hst.bB; omega, fun e => by cases e⟩, ht.below (hb.mono (by omega)), hG, ⟨hN.1, hN.2, by omega, fun g hg => by cases hg⟩, fun g hg => by cases hg⟩, hb, zaa hxb⟩
def AllR (N BT : Nat) (T : Tab) (C xb : Nat) (R : List Tk × Nat × Sc) (ov : Value) (w : World) (e : Ending) (w' : World) : Prop :=
 ∃ outv, e = .returned (.tuple #[outv, errV R.2.1]) /\ w'.ownsRow w.heap.size 28 5 outv R.1.length (zbF R.1) /\ Rdy N BT T C xb R.2.2 outv w' /\ Below N w w' /\ ∀ g, ov.ownBlock = some g -> w'.heap[g]? = w.heap[g]?
theorem rdy_all {N BT : Nat} {T : Tab} {C xb R0 M : Nat} {x : Sc} {ov : Value} {w : World} (hT : WfT T R0) (h : Rdy N BT T C xb x ov w) (hTabs : Tabs w) (hC4 : 4 <= C) (hC2 : C <= 900000) (hM : M <= 100000000) (hw : ScWf M C x) (most : Nat) (hm : 1 <= most) (hm2 : most <= 100000) :
 Calls Tryz.prog 22 #[zaj xb, .int .i64 most] w (AllR N BT T C xb (allL T C most x []) ov w) := by
 obtain ⟨B, bs, bt, sb, bc, cc, br, cr, bg, cg, bv, h⟩ := h; refine (all_any T R0 hT BT B w bs bt sb C bc cc br cr bg cg M xb bv most x ⟨h.hx, h.xne⟩ h.tab hTabs h.glob ⟨by have := h.low; omega, by have := h.low; omega, fun g hg => by have := h.low.2.2.2 g hg; have := h.low.1; omega⟩ hC4 hC2 hM hw hm hm2 h.st).mono ?_; rintro e w' ⟨outv, rfl, hrow, bv', hs, hk, hne⟩; have hlt := h.st.lt
 exact ⟨outv, rfl, hrow, ⟨B, bs, bt, sb, bc, cc, br, cr, bg, cg, bv', h.next hs hk fun g hg => by have h9 := zcQ hrow g hg; exact ⟨by omega, by omega, fun e => hne g e hg, h9.2⟩⟩, h.kb hk, fun g hg => (h.apart hk g hg).2⟩
def NextR (N BT : Nat) (T : Tab) (C xb : Nat) (R : Tk × Nat × Sc) (ov : Value) (w : World) (e : Ending) (w' : World) : Prop :=
 e = .returned (.tuple #[tkV R.1, errV R.2.1]) /\ Rdy N BT T C xb R.2.2 ov w' /\ Below N w w' /\ ∀ g, ov.ownBlock = some g -> w'.heap[g]? = w.heap[g]?
theorem rdy_next {N BT : Nat} {T : Tab} {C xb R0 M : Nat} {x : Sc} {ov : Value} {w : World} (hT : WfT T R0) (h : Rdy N BT T C xb x ov w) (hTabs : Tabs w) (hC4 : 4 <= C) (hC2 : C <= 900000) (hM : M <= 100000000) (hw : ScWf M C x) :
 ∃ bs, w.heap[xb]? = some (.cells #[zaj bs] 62 (0, 0)) /\ Calls Tryz.prog 25 #[zaj bs] w (NextR N BT T C xb (zdO T C x) ov w) := by
 obtain ⟨B, bs, bt, sb, bc, cc, br, cr, bg, cg, bv, h⟩ := h; refine ⟨bs, h.hx, (zgJ T R0 hT BT B w bs bt sb C bc cc br cr bg cg M x bv h.st h.tab hTabs h.glob (by have := h.low; omega) hC4 hC2 hw hM).mono ?_⟩; rintro e w' ⟨rfl, bv', hs, hk⟩; exact ⟨rfl, ⟨B, bs, bt, sb, bc, cc, br, cr, bg, cg, bv', h.next hs hk fun g hg => (h.apart hk g hg).1⟩, h.kb hk, fun g hg => (h.apart hk g hg).2⟩
end
section
open Go.RowKit Go.Lib
theorem told13 (w : World) (hE : ErrT w) (h0 : 0 < w.heap.size) : Calls Tryz.prog 23 #[.iface 51 (.int .i64 13)] w fun e w' => e = .returned (.tuple #[.int .i64 13, .int .i64 (-1), .int .i64 (-1)]) /\ Below w.heap.size w w' := told_any 13 w hE h0
theorem piece_row (w : World) (t : ByteArray) (n k : Int) : (w.alloc (.cells #[.string t, .int .i64 n, .int .i64 k] 43)).ownsRow 0 43 3 (.slice (some ⟨w.heap.size, 0, none⟩) 1 1) 1 (zbV [⟨t, n, k⟩]) :=
 ⟨rfl, .inr ⟨w.heap.size, 1, #[.string t, .int .i64 n, .int .i64 k], rfl, Nat.zero_le _, zaB _ _ _ rfl, Nat.le_refl _, by unfold maxLen; omega, rfl, rfl⟩⟩
def src1 (t : ByteArray) : Src := ⟨[⟨t, 0, 0⟩], 0, 0⟩
theorem src1_ok {t : ByteArray} (h : t.size < 1000000) : zfx (src1 t) :=
 ⟨fun p hp => by rw [src1, List.mem_singleton] at hp; subst hp; exact h, fun p hp => by rw [src1, List.mem_singleton] at hp; subst hp; exact (by decide : -1000000000 < (0 : Int) /\ (0 : Int) < 1000000000), fun p hp => by rw [src1, List.mem_singleton] at hp; subst hp; exact (by decide : -1000000000 < (0 : Int) /\ (0 : Int) < 1000000000),
  (by decide : (1 : Nat) < 1000000), (by decide : (0 : Nat) < 1000000), (by decide : 0 <= (0 : Int) /\ (0 : Int) < 1000000000)⟩
theorem zjf (t : ByteArray) : zdN (src1 t) = t.size := by
 show (t.size - 0) + 0 = t.size; omega
theorem nil_app (b : ByteArray) : (⟨#[]⟩ : ByteArray) ++ b = b := by
 ext1
 simp [ByteArray.data_append]
theorem zgG (t : ByteArray) : zcO (src1 t) 0 = (t, 13) := by
 show (za5 [⟨t, 0, 0⟩] 0 0 0) = (t, 13); rw [za5]; dsimp only; by_cases h : 0 < t.size
 . rw [if_pos h, if_neg (by decide), if_neg (by decide), if_neg (by decide), if_neg (by decide), za5, ByteArray.append_empty, ByteArray.extract_zero_size]
 rw [if_neg h, if_neg (by decide), if_neg (by decide), if_neg (by decide), za5]
 have h0 : t.size = 0 := by omega
 rw [show ByteArray.empty = t by
  have := ByteArray.extract_zero_size (b := t); rw [h0, ByteArray.extract_same] at this; exact this]
theorem all_src {T : Tab} {R C n e k : Nat} (hT : WfT T R) (hC : 4 <= C) {S : Src} {t : ByteArray} (hs : zcO S 0 = (t, e)) (hk : (za0 T C e n t 0 1 1).2 = k) :
 (allL T C n (x0 S) []).1 = (za0 T C e n t 0 1 1).1 /\ (allL T C n (x0 S) []).2.1 = k /\ (allL T C n (x0 S) []).2.2.err = k := by
 have h := zhc (T := T) hT hC n (x0 S) [] rfl (Nat.zero_le _); have hr : repS (x0 S).buf (x0 S).why (x0 S).src = (t, e) := by
  show repS ⟨#[]⟩ 0 S = (t, e); unfold repS; rw [if_pos rfl, nil_app, hs]
 rw [hr] at h; exact ⟨h.1.trans (List.nil_append _), h.2.1.trans hk, h.2.2.trans hk⟩
theorem newSrc (w : World) (t : ByteArray) (n k : Int) : Calls Tryz.prog 20 #[.slice (some ⟨w.heap.size, 0, none⟩) 1 1] (w.alloc (.cells #[.string t, .int .i64 n, .int .i64 k] 43)) fun e w' => ∃ sb, e = .returned (zaj sb) /\ zd5 w'.heap.size w' sb ⟨[⟨t, n, k⟩], 0, 0⟩ /\ w.heap.size <= sb /\ Below w.heap.size w w' := by
 refine (zid [⟨t, n, k⟩] w.heap.size 1 (w.alloc (.cells #[.string t, .int .i64 n, .int .i64 k] 43)) (by decide : 0 < 1) (by decide : 1 < 1000000) (piece_row w t n k)).mono ?_; rintro e w' ⟨sb, rfl, h1, h2, h3⟩; have hz : (w.alloc (.cells #[.string t, .int .i64 n, .int .i64 k] 43)).heap.size = w.heap.size + 1 := by simp
 exact ⟨sb, rfl, h1, by omega, zb9 ((Below.refl _ w).alloc (Nat.le_refl _) _) h3 (by omega)⟩
theorem compAB (w : World) (h : Gl w) : Calls Tryz.prog 24 #[.slice (some ⟨w.heap.size, 0, none⟩) 2 2] (w.alloc (.cells #[.string ⟨#[97]⟩, .string ⟨#[98]⟩] 9)) (CompO zhY (w.alloc (.cells #[.string ⟨#[97]⟩, .string ⟨#[98]⟩] 9))) := by
 obtain ⟨_, f, trees, s2, L, rule, goes, fb, best2, b2, hC⟩ := comp_ab; have hg := h.later ((Below.refl _ w).alloc (Nat.le_refl _) (.cells #[.string ⟨#[97]⟩, .string ⟨#[98]⟩] 9)); exact zey zis zhY hC _ w.heap.size 2 (zkc w zis 2 rfl (by decide)) hg.tabs hg.wid hg.size
theorem compK (k : Nat) (hk : k < 8) (w : World) (g cap : Nat) (h : Gl w) (hrow : w.ownsRow 0 9 1 (.slice (some ⟨g, 0, none⟩) (zck k).length cap) (zck k).length ((zck k).map Value.string)) : Calls Tryz.prog 24 #[.slice (some ⟨g, 0, none⟩) (zck k).length cap] w (CompO (tabOf k) w) := by
 obtain ⟨_, f, trees, s2, L, rule, goes, fb, best2, b2, hC⟩ := comp_i k hk; exact zey (zck k) (tabOf k) hC w g cap hrow h.tabs h.wid h.size
theorem wf_ab : WfT zhY 2 := comp_ab.1
structure zjS (w0 : World) (T : Tab) (cb : Nat) (w : World) : Prop where
 ex : ∃ tb bc cc br cr bg cg, w.heap[cb]? = some (.cells #[zaj tb] 70 (0, 0)) /\ zbY w.heap.size w tb T bc cc br cr bg cg /\ w0.heap.size <= tb /\ w0.heap.size <= cb
theorem zjS.later {w0 : World} {T : Tab} {cb : Nat} {w w' : World} (h : zjS w0 T cb w) (hb : Below w.heap.size w w') : zjS w0 T cb w' := by
 obtain ⟨tb, bc, cc, br, cr, bg, cg, h1, h2, h3, h4⟩ := h.ex; exact ⟨tb, bc, cc, br, cr, bg, cg, (hb.block cb (zaa h1)).trans h1, (h2.below hb).mono hb.size, h3, h4⟩
theorem scan_at {w0 w1 w : World} {T : Tab} {cb sb C : Nat} {S : Src} (h : zjS w0 T cb w1) (hG : Gl w1) (hb : Below w1.heap.size w1 w) (hS : zd5 w.heap.size w sb S) (hok : zfx S) (hsb : w1.heap.size <= sb) (h4 : 4 <= C) (hm : C <= 100000) :
 Calls Tryz.prog 21 #[zaj cb, zaj sb, .int .i64 C] w fun e w' => ∃ xb, e = .returned (.tuple #[zaj xb, .nilIface]) /\ Rdy w1.heap.size w1.heap.size T C xb (x0 S) (.slice none 0 0) w' /\ Below w1.heap.size w1 w' := by
 obtain ⟨tb, bc, cc, br, cr, bg, cg, h1, h2, _⟩ := h.ex; refine (zh6 w.heap.size cb tb sb C S w ((hb.block cb (zaa h1)).trans h1) hS hok (Nat.le_refl _) h4 hm).mono ?_; intro e w' ho; obtain ⟨xb, rfl, hr, hb2, _⟩ := rdy_scan ho (h2.below hb) hG.size ⟨Nat.le_refl _, hsb⟩ hb.size; exact ⟨xb, rfl, hr, zb9 hb hb2 hb.size⟩
theorem zhL {w : World} {B : Nat} {e : TypeId} {size : Nat} {ao : Option Addr} {n cap : Nat} {xs : List Value} (h : w.ownsRow B e size (.slice ao n cap) n xs) (hn : 0 < n) : ∃ g, ao = some ⟨g, 0, none⟩ := by
 rcases h.2 with ⟨_, h9⟩ | ⟨g, c9, cur9, e9, _⟩
 . omega
 simp only [Value.slice.injEq] at e9
 exact ⟨g, e9.1⟩
theorem zd6 {w : World} {B : Nat} {e : TypeId} {size : Nat} {g n cap : Nat} {xs : List Value} (h : w.ownsRow B e size (.slice (some ⟨g, 0, none⟩) n cap) n xs) (j : Nat) (u : Value) (hu : xs[j]? = some u) : w.cell? ⟨g, j, none⟩ = some u := zax (zh9 h (Nat.zero_le _)) j u hu
theorem all_at {w1 w : World} {T : Tab} {R0 xb C n e k : Nat} {S : Src} {t : ByteArray} (hT : WfT T R0) (h : Rdy w1.heap.size w1.heap.size T C xb (x0 S) (.slice none 0 0) w) (hG : Gl w1) (hb : Below w1.heap.size w1 w) (hs : zcO S 0 = (t, e)) (hl : zdN S <= 100000)
 (hk : (za0 T C e n t 0 1 1).2 = k) (hk0 : k ≠ 0) (hC4 : 4 <= C) (hC2 : C <= 100000) (hn : 1 <= n) (hn2 : n <= 100000) :
 Calls Tryz.prog 22 #[zaj xb, .int .i64 n] w fun e' w' => ∃ ao cap y, y.err = k /\ ScWf 100000 C y /\ e' = .returned (.tuple #[.slice ao (za0 T C e n t 0 1 1).1.length cap, .iface 51 (.int .i64 k)]) /\
  w'.ownsRow w.heap.size 28 5 (.slice ao (za0 T C e n t 0 1 1).1.length cap) (za0 T C e n t 0 1 1).1.length (zbF (za0 T C e n t 0 1 1).1) /\ Rdy w1.heap.size w1.heap.size T C xb y (.slice ao (za0 T C e n t 0 1 1).1.length cap) w' /\ Below w1.heap.size w1 w' := by
 have hw : ScWf 100000 C (x0 S) := x0_wf hl; refine (rdy_all (M := 100000) hT h (hG.below hb hG.size).tabs hC4 (by omega) (by omega) hw n hn hn2).mono ?_; rintro e' w' ⟨outv, rfl, hrow, hr, hb2, _⟩; have ha := all_src (T := T) (n := n) hT hC4 hs hk; have hwf : ∀ (n : Nat) (x : Sc) (l : List Tk), ScWf 100000 C x -> ScWf 100000 C (allL T C n x l).2.2 := by
  intro n
  induction n with
  | zero => intro x l h; exact h
  | succ n ih =>
   intro x l h; unfold allL; split
   . exact ziv h
   exact ih _ _ (ziv h)
 have hw2 := hwf n (x0 S) [] hw; rw [ha.1] at hrow; rw [ha.2.1, zaS hk0]; generalize (allL T C n (x0 S) []).2.2 = y at hr ha hw2; generalize (za0 T C e n t 0 1 1).1 = l at hrow ⊢; obtain ⟨ao, cap, rfl⟩ : ∃ ao cap, outv = .slice ao l.length cap := by
  rcases hrow.2 with ⟨rfl, h0⟩ | ⟨g, cap, cur, rfl, _⟩
  . exact ⟨none, 0, by rw [h0]⟩
  exact ⟨_, _, rfl⟩
 exact ⟨ao, cap, y, ha.2.2, hw2, rfl, hrow, hr, hb.trans hb2⟩
theorem next_done {N BT : Nat} {T : Tab} {C xb R0 M k : Nat} {y : Sc} {ov : Value} {w : World} (hT : WfT T R0) (h : Rdy N BT T C xb y ov w) (hTabs : Tabs w) (hC4 : 4 <= C) (hC2 : C <= 900000) (hM : M <= 100000000) (hw : ScWf M C y) (hk : k ≠ 0) (hy : y.err = k) :
 ∃ bs, w.heap[xb]? = some (.cells #[zaj bs] 62 (0, 0)) /\ Calls Tryz.prog 25 #[zaj bs] w fun e w' => e = .returned (.tuple #[.agg #[.int .i64 0, .int .i64 0, .int .i64 0, .int .i64 0, .string ⟨#[]⟩], .iface 51 (.int .i64 k)]) /\
  Rdy N BT T C xb y ov w' /\ Below N w w' /\ ∀ g, ov.ownBlock = some g -> w'.heap[g]? = w.heap[g]? := by
 obtain ⟨bs, hx, hc⟩ := rdy_next hT h hTabs hC4 hC2 hM hw; refine ⟨bs, hx, hc.mono ?_⟩; intro e w' ho; rw [nextS_err (by omega), hy] at ho; obtain ⟨rfl, h2, h3, h4⟩ := ho; exact ⟨by rw [zaS hk]; rfl, h2, h3, h4⟩
theorem zjL (l : List Tk) (i : Nat) (t : Tk) (h : l[i]? = some t) : (zbF l)[i * 5]? = some (.int .i64 t.rule) /\ (zbF l)[i * 5 + 1]? = some (.int .i64 t.pos) /\ (zbF l)[i * 5 + 2]? = some (.int .i64 t.line) /\ (zbF l)[i * 5 + 3]? = some (.int .i64 t.col) /\ (zbF l)[i * 5 + 4]? = some (.string t.text) := by
 induction l generalizing i with
 | nil => simp at h
 | cons a l ih =>
  have e : zbF (a :: l) = .int .i64 a.rule :: .int .i64 a.pos :: .int .i64 a.line :: .int .i64 a.col :: .string a.text :: zbF l := rfl; cases i with
  | zero => simp at h; subst h; exact ⟨rfl, rfl, rfl, rfl, rfl⟩
  | succ i =>
   have h' := ih i (by simpa using h); rw [e, show (i + 1) * 5 = i * 5 + 1 + 1 + 1 + 1 + 1 by omega]; simpa using h'
end
section
open Go.RowKit Go.Lib
theorem ab_toks : (za0 zhY 10 13 9 ⟨#[97, 98]⟩ 0 1 1).1.map (·.rule) = [0, 1] /\ (za0 zhY 10 13 9 ⟨#[97, 98]⟩ 0 1 1).1.map (·.pos) = [0, 1] := by decide +kernel
theorem ab_two : ∃ t0 t1 : Tk, (za0 zhY 10 13 9 ⟨#[97, 98]⟩ 0 1 1).1 = [t0, t1] /\ t0.rule = 0 /\ t1.rule = 1 /\ t1.pos = 1 := by
 have h := ab_toks; generalize (za0 zhY 10 13 9 ⟨#[97, 98]⟩ 0 1 1).1 = l at h
 match l, h with
 | [t0, t1], h =>
  simp only [List.map_cons, List.map_nil, List.cons.injEq, and_true] at h; exact ⟨t0, t1, rfl, h.1.1, h.1.2, h.2.2⟩
 | [], h => simp at h
 | [_], h => simp at h
 | _ :: _ :: _ :: _, h => simp at h
def TabsO (k : Nat) (w : World) (e : Ending) (w' : World) : Prop := ∃ cb, e = .returned (zaj cb) /\ zjS w (tabOf k) cb w' /\ Below w.heap.size w w'
theorem cmp_of {T : Tab} {w0 w : World} {e : Ending} {w' : World} (h : CompO T w e w') (hb : Below w0.heap.size w0 w) : ∃ cb, e = .returned (.tuple #[zaj cb, .nilIface]) /\ zjS w0 T cb w' /\ Below w0.heap.size w0 w' := by
 obtain ⟨cb, tb, bc, cc, br, cr, bg, cg, rfl, h1, h2, h3, h4, h5⟩ := h; exact ⟨cb, rfl, ⟨tb, bc, cc, br, cr, bg, cg, h1, h2, Nat.le_trans hb.size h3, Nat.le_trans hb.size h4⟩, zb9 hb h5 hb.size⟩
theorem zk1 (c : Int) (hc : -9223372036854775808 <= c /\ c <= 9223372036854775807) (w : World) (hG : Gl w) : Calls Tryz.prog 12 #[.int .i64 c] w (TabsO (zg2 c 8) w) := by
 have hk := pick_lt c 8 (by decide); have hrul := fun w => rules_any c hc w; generalize zg2 c 8 = k at hk hrul ⊢; have HR := hid hrul; have HG := hid hG; have HK := hid hk; have hcab := compAB w hG; have HCAB := hid hcab; clear hrul hG hk hcab hc; go_enter Tryz.func12, Tryz.ntmps12; go_upto_region 4 with (first | (go_at_call 24; refine (HCAB.out).mono ?_; rintro e w1 ho; obtain ⟨cb, rfl, ho2⟩ := cmp_of ho ((Below.refl _ w).alloc (Nat.le_refl _) _); have H1 := hid ho2; clear ho ho2))
 have hg1 := HG.out.later H1.out.2; have hns := newSrc w1 ⟨#[97, 98]⟩ 0 0; have HNS := hid hns; have HG1 := hid hg1; clear hns hg1; go_upto_region 5 with (first | (go_at_call 20; refine (HNS.out).mono ?_; rintro e w2 ⟨sb, rfl, ho⟩; have H2 := hid ho; clear ho))
 have hsc := scan_at (C := 10) H1.out.1 HG1.out H2.out.2.2 H2.out.1 (src1_ok (t := ⟨#[97, 98]⟩) (by decide)) H2.out.2.1 (by decide) (by decide); have HSC := hid hsc; clear hsc; go_upto_region 8 with (first | (go_at_call 21; refine (HSC.out).mono ?_; rintro e w3 ⟨xb, rfl, ho⟩; have H3 := hid ho; clear ho))
 have hal := all_at (n := 9) (k := 13) wf_ab H3.out.1 HG1.out H3.out.2 (zgG _) (by rw [show (⟨[⟨⟨#[97, 98]⟩, 0, 0⟩], 0, 0⟩ : Src) = src1 ⟨#[97, 98]⟩ from rfl, zjf]; decide) (zgx _ _ _ _ _ (by decide) (by decide)) (by decide) (by decide) (by decide) (by decide) (by decide); obtain ⟨t0, t1, htk, hr0, hr1, hp1⟩ := ab_two; rw [htk] at hal; simp only [List.length_cons, List.length_nil, Nat.zero_add, Nat.reduceAdd] at hal; have HAL := hid hal; have HT := hid (And.intro hr0 (And.intro hr1 hp1)); clear hal htk hr0 hr1 hp1
 have hal2 : ∀ w4 ao cap y, (y.err = 13 /\ ScWf 100000 10 y /\ w4.ownsRow w3.heap.size 28 5 (.slice ao 2 cap) 2 (zbF [t0, t1]) /\ Rdy w1.heap.size w1.heap.size zhY 10 xb y (.slice ao 2 cap) w4 /\ Below w1.heap.size w1 w4) ->
  ∃ g4, ao = some ⟨g4, 0, none⟩ /\ w4.cell? ⟨g4, 0, none⟩ = some (.int .i64 0) /\ w4.cell? ⟨g4, 5, none⟩ = some (.int .i64 1) /\ w4.cell? ⟨g4, 6, none⟩ = some (.int .i64 1) /\ g4 < w4.heap.size := by
  rintro w4 ao cap y ⟨hy, hwf, hrow, hrd, hb4⟩; obtain ⟨g4, rfl⟩ := zhL hrow (by decide); have q0 := zd6 hrow 0 (.int .i64 t0.rule) (by rfl); have q5 := zd6 hrow 5 (.int .i64 t1.rule) (by rfl); have q6 := zd6 hrow 6 (.int .i64 t1.pos) (by rfl); rw [HT.out.1] at q0; rw [HT.out.2.1] at q5; rw [HT.out.2.2] at q6; exact ⟨g4, rfl, q0, q5, q6, (zcQ hrow g4 rfl).2⟩
 have HAL2 := hid hal2; clear hal2; go_upto_region 9 with (first | (go_at_call 22; refine (HAL.out).mono ?_; rintro e w4 ⟨ao, cap, y, hy, hwf, rfl, hrow, hrd, hb4⟩; obtain ⟨g4, rfl, q0, q5, q6, l4⟩ := HAL2.out w4 ao cap y ⟨hy, hwf, hrow, hrd, hb4⟩; have H4 := hid hb4; clear hy hwf hrow hrd hb4))
 have hg4 := HG1.out.below H4.out HG1.out.size; have htd := told13 w4 hg4.err hg4.pos; have HTD := hid htd; have HG4 := hid hg4; clear htd hg4; go_upto_region 10 with (first | (go_at_call 23; refine (HTD.out).mono ?_; rintro e w5 ⟨rfl, hb5⟩; have k0 := (zai hb5 ⟨g4, 0, none⟩ l4).trans q0; have k5 := (zai hb5 ⟨g4, 5, none⟩ l4).trans q5; have k6 := (zai hb5 ⟨g4, 6, none⟩ l4).trans q6; have l5 := zLd l4 hb5.size; have H5 := hid hb5; clear hb5 q0 q5 q6))
 have hb5 : Below w.heap.size w w5 := zaF H1.out.2 (zaF (B := w1.heap.size) H4.out H5.out (by have := H4.out.size; omega)) H1.out.2.size; have HB5 := hid hb5; have HG5 := hid (HG4.out.later H5.out); clear hb5; go_upto_region 13 with (first
  | (go_at_call 14; refine (HR.out _).mono ?_; rintro e w6 ⟨g6, rfl, hrow6, hb6⟩; have H6 := hid (And.intro hrow6 hb6); clear hrow6 hb6)
  | (go_at_call 24; refine (compK k HK.out w6 g6 _ (HG5.out.later H6.out.2) H6.out.1).mono ?_; rintro e w7 ho; obtain ⟨cb7, rfl, ho2⟩ := cmp_of ho (zaF HB5.out H6.out.2 HB5.out.size); have H7 := hid ho2; clear ho ho2))
 go_wp2_with (fail); go_ret; exact ⟨cb7, rfl, H7.out⟩
def ToksO (T : Tab) (t : ByteArray) (w : World) (e : Ending) (w' : World) : Prop :=
 ∃ ao cap, e = .returned (.tuple #[.slice ao (za0 T 5000 13 3000 t 0 1 1).1.length cap, .bool true]) /\ w'.ownsRow w.heap.size 28 5 (.slice ao (za0 T 5000 13 3000 t 0 1 1).1.length cap) (za0 T 5000 13 3000 t 0 1 1).1.length (zbF (za0 T 5000 13 3000 t 0 1 1).1) /\ Below w.heap.size w w'
theorem zkM {w0 : World} {T : Tab} {R0 cb : Nat} (hT : WfT T R0) (t : ByteArray) (ht : t.size <= 2000) (w : World) (hG : Gl w) (h : zjS w0 T cb w) : Calls Tryz.prog 13 #[zaj cb, .string t] w (ToksO T t w) := by
 have HG := hid hG; have H := hid h; have HT := hid (And.intro hT ht); have hns := newSrc w t 0 0; have HNS := hid hns; clear hns hG h hT ht; go_enter Tryz.func13, Tryz.ntmps13; go_upto_region 2 with (first | (go_at_call 20; refine (HNS.out).mono ?_; rintro e w2 ⟨sb, rfl, ho⟩; have H2 := hid ho; clear ho))
 have hsc := scan_at (C := 5000) H.out HG.out H2.out.2.2 H2.out.1 (src1_ok (t := t) (by have := HT.out.2; omega)) H2.out.2.1 (by decide) (by decide); have HSC := hid hsc; clear hsc; go_upto_region 5 with (first | (go_at_call 21; refine (HSC.out).mono ?_; rintro e w3 ⟨xb, rfl, ho⟩; have H3 := hid ho; clear ho))
 have hal := all_at (n := 3000) (k := 13) HT.out.1 H3.out.1 HG.out H3.out.2 (zgG t) (by rw [show (⟨[⟨t, 0, 0⟩], 0, 0⟩ : Src) = src1 t from rfl, zjf]; have := HT.out.2; omega) (zgx _ _ _ _ _ (by have := HT.out.2; omega) (by have := HT.out.2; omega)) (by decide) (by decide) (by decide) (by decide) (by decide); obtain ⟨l, hl⟩ : ∃ l, l = (za0 T 5000 13 3000 t 0 1 1).1 := ⟨_, rfl⟩; rw [<- hl] at hal; have HAL := hid hal; have HL := hid hl; clear hal hl
 go_upto_region 6 with (first | (go_at_call 22; refine (HAL.out).mono ?_; rintro e w4 ⟨ao, cap, y, hy, hwf, rfl, hrow, hrd, hb4⟩; have H4 := hid (And.intro hy (And.intro hwf (And.intro hrow (And.intro hrd hb4)))); clear hy hwf hrow hrd hb4))
 have hg4 := HG.out.below H4.out.2.2.2.2 HG.out.size; have htd := told13 w4 hg4.err hg4.pos; have HTD := hid htd; have HG4 := hid hg4; clear htd hg4; go_upto_region 7 with (first | (go_at_call 23; refine (HTD.out).mono ?_; rintro e w5 ⟨rfl, hb5⟩; have H5 := hid hb5; clear hb5))
 have hb5 : Below w.heap.size w w5 := zaF H4.out.2.2.2.2 H5.out H4.out.2.2.2.2.size; have hr5 := H4.out.2.2.2.1.below H5.out; have hg5 := HG4.out.later H5.out; obtain ⟨bs, hx5, hnx⟩ := next_done (k := 13) HT.out.1 hr5 hg5.tabs (by decide) (by decide) (by decide) H4.out.2.1 (by decide) H4.out.1; have HNX := hid hnx; have HB5 := hid hb5; have HG5 := hid hg5; have cx := zab _ _ 0 _ _ _ hx5; simp only [zLa, zLb] at cx; have lx := zaa hx5; clear hnx hb5 hg5 hr5 hx5
 go_upto_region 8 with (first | (go_at_call 25; refine (HNX.out).mono ?_; rintro e w6 ⟨rfl, _, ho⟩; have H6 := hid ho; clear ho))
 obtain ⟨W6, hW6⟩ : ∃ W6, w6.alloc (.cells #[.int .i64 0, .int .i64 0, .int .i64 0, .int .i64 0, .string ⟨#[]⟩] 28) = W6 := ⟨_, rfl⟩; have hb6 : Below w6.heap.size w6 W6 := by rw [<- hW6]; exact (Below.refl _ w6).alloc (Nat.le_refl _) _
 have hbw : Below w.heap.size w w6 := HB5.out.trans H6.out.1; have hb6' := zaF hbw hb6 hbw.size; rw [hW6]; clear hW6; have hg6 := HG.out.later hb6'; have htd6 := told13 W6 hg6.err hg6.pos; have HTD6 := hid htd6; have HB6 := hid (And.intro hb6' hb6); clear htd6 hg6 hb6 hbw hb6'; go_wp2_with (first | (go_at_call 23; refine (HTD6.out).mono ?_; rintro e w7 ⟨rfl, hb7⟩; have H7 := hid hb7; clear hb7)); refine bodyPost_ret (v := .tuple #[.slice ao l.length cap, .bool true]) (by simp [results, Tryz.results13, go_sem]) rfl ?_; unfold ToksO; rw [<- HL.out]
 refine ⟨ao, cap, rfl, ?_, zaF HB6.out.1 H7.out HB6.out.1.size⟩; have hrow := H4.out.2.2.1; have hlo := zcQ hrow; refine zcB (zh9 hrow (by have := H3.out.2.size; omega)) fun g hg => ?_; have h4 := (hlo g hg).2; have h5 := H5.out.block g h4; have h6 := H6.out.2 g hg; have s5 := H5.out.size; have s6 := H6.out.1.size; have s7 := HB6.out.2.size; exact (H7.out.block g (by omega)).trans ((HB6.out.2.block g (by omega)).trans (h6.trans h5))
end
section
open Go.RowKit Go.Lib
end
section
open Go.RowKit Go.Lib
theorem zgF {w w' : World} {A B : Nat} {e : TypeId} {size : Nat} {v : Value} {n : Nat} {xs : List Value} (h : w.ownsRow A e size v n xs) (hb : Below B w w') (hB : ∀ g, v.ownBlock = some g -> g < B) : w'.ownsRow A e size v n xs :=
 zcB h fun g hg => hb.block g (hB g hg)
theorem zgN {T : Tab} {C e : Nat} : ∀ (n : Nat) (s : ByteArray) (pos line col : Int), (za0 T C e n s pos line col).1.length <= s.size
 | 0, s, pos, line, col => Nat.zero_le _
 | n + 1, s, pos, line, col => by
  rw [za0]; cases hR : zcf T C s e with
  | err k => exact Nat.zero_le _
  | tok rule len =>
   have hl := zek (rule' := 0) hR; have hz := zbG s len s.size (Nat.le_refl _); have := zgN (T := T) (C := C) (e := e) n (s.extract len s.size) (pos + len) (zaX (s.extract 0 len) (len + 1) 0 line col).1 (zaX (s.extract 0 len) (len + 1) 0 line col).2; simp only [List.length_cons]; omega
end
end Go.Proofs.YtghpmhllpaheiaaGreatDoor
