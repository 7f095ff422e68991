/-
  Part of the proof: Nx2. No condition beyond those in the statements.
-/
import Derived.Test.YtghpmhllpaheiaaGreatDoorK23
set_option linter.unusedVariables false
set_option linter.unusedSimpArgs false
namespace Go.Proofs.YtghpmhllpaheiaaGreatDoor
open Go.RowKit Go.Lib
set_option maxRecDepth 100000 in
def nxFrame (bs rb xb : Nat) (f : Nat → Value) : Act := { tmps := (knotP bs :: f 1 :: .pointer (some ⟨rb, 0, none⟩) :: .nilIface :: .pointer (some ⟨xb, 0, none⟩) :: f 5 :: f 6 :: f 7 :: f 8 :: f 9 :: f 10 :: f 11 :: f 12 :: f 13 :: f 14 :: f 15 :: f 16 :: f 17 :: f 18 :: f 19 :: f 20 :: f 21 :: f 22 :: f 23 :: f 24 :: f 25 :: f 26 :: f 27 :: f 28 :: f 29 :: f 30 :: f 31 :: f 32 :: f 33 :: f 34 :: f 35 :: f 36 :: f 37 :: f 38 :: f 39 :: f 40 :: f 41 :: f 42 :: f 43 :: f 44 :: f 45 :: f 46 :: f 47 :: f 48 :: f 49 :: f 50 :: f 51 :: f 52 :: f 53 :: f 54 :: f 55 :: f 56 :: f 57 :: f 58 :: f 59 :: f 60 :: f 61 :: f 62 :: f 63 :: f 64 :: f 65 :: f 66 :: f 67 :: f 68 :: f 69 :: f 70 :: f 71 :: f 72 :: f 73 :: f 74 :: f 75 :: f 76 :: f 77 :: f 78 :: f 79 :: f 80 :: f 81 :: f 82 :: f 83 :: f 84 :: f 85 :: f 86 :: f 87 :: f 88 :: f 89 :: f 90 :: f 91 :: f 92 :: f 93 :: f 94 :: f 95 :: f 96 :: f 97 :: f 98 :: f 99 :: f 100 :: f 101 :: f 102 :: f 103 :: f 104 :: f 105 :: f 106 :: f 107 :: f 108 :: f 109 :: f 110 :: f 111 :: f 112 :: f 113 :: f 114 :: f 115 :: f 116 :: f 117 :: f 118 :: f 119 :: f 120 :: f 121 :: f 122 :: f 123 :: f 124 :: f 125 :: f 126 :: f 127 :: f 128 :: f 129 :: f 130 :: f 131 :: f 132 :: f 133 :: f 134 :: f 135 :: f 136 :: f 137 :: f 138 :: f 139 :: f 140 :: f 141 :: f 142 :: [] : List Value).toArray, defers := [] }
theorem list_getD (t : Array Value) (n : Nat) (hs : t.size = n) : t = ((List.range n).map (fun i => t.getD i undef)).toArray := by
 apply Array.ext
 · simp [hs]
 · intro i h1 h2
   simp [Array.getD_eq_getD_getElem?, h1]
set_option maxRecDepth 100000 in
set_option maxHeartbeats 4000000 in
theorem frame_lit (bs rb xb : Nat) (t : Array Value) (hs : t.size = 143) (h0 : t.getD 0 undef = knotP bs) (h2 : t.getD 2 undef = .pointer (some ⟨rb, 0, none⟩)) (h3 : t.getD 3 undef = .nilIface) (h4 : t.getD 4 undef = .pointer (some ⟨xb, 0, none⟩)) :
 ({ tmps := t, defers := [] } : Act) = nxFrame bs rb xb (fun i => t.getD i undef) := by
 have e := list_getD t 143 hs
 have e2 : ((List.range 143).map (fun i => t.getD i undef)) = (t.getD 0 undef :: t.getD 1 undef :: t.getD 2 undef :: t.getD 3 undef :: t.getD 4 undef :: t.getD 5 undef :: t.getD 6 undef :: t.getD 7 undef :: t.getD 8 undef :: t.getD 9 undef :: t.getD 10 undef :: t.getD 11 undef :: t.getD 12 undef :: t.getD 13 undef :: t.getD 14 undef :: t.getD 15 undef :: t.getD 16 undef :: t.getD 17 undef :: t.getD 18 undef :: t.getD 19 undef :: t.getD 20 undef :: t.getD 21 undef :: t.getD 22 undef :: t.getD 23 undef :: t.getD 24 undef :: t.getD 25 undef :: t.getD 26 undef :: t.getD 27 undef :: t.getD 28 undef :: t.getD 29 undef :: t.getD 30 undef :: t.getD 31 undef :: t.getD 32 undef :: t.getD 33 undef :: t.getD 34 undef :: t.getD 35 undef :: t.getD 36 undef :: t.getD 37 undef :: t.getD 38 undef :: t.getD 39 undef :: t.getD 40 undef :: t.getD 41 undef :: t.getD 42 undef :: t.getD 43 undef :: t.getD 44 undef :: t.getD 45 undef :: t.getD 46 undef :: t.getD 47 undef :: t.getD 48 undef :: t.getD 49 undef :: t.getD 50 undef :: t.getD 51 undef :: t.getD 52 undef :: t.getD 53 undef :: t.getD 54 undef :: t.getD 55 undef :: t.getD 56 undef :: t.getD 57 undef :: t.getD 58 undef :: t.getD 59 undef :: t.getD 60 undef :: t.getD 61 undef :: t.getD 62 undef :: t.getD 63 undef :: t.getD 64 undef :: t.getD 65 undef :: t.getD 66 undef :: t.getD 67 undef :: t.getD 68 undef :: t.getD 69 undef :: t.getD 70 undef :: t.getD 71 undef :: t.getD 72 undef :: t.getD 73 undef :: t.getD 74 undef :: t.getD 75 undef :: t.getD 76 undef :: t.getD 77 undef :: t.getD 78 undef :: t.getD 79 undef :: t.getD 80 undef :: t.getD 81 undef :: t.getD 82 undef :: t.getD 83 undef :: t.getD 84 undef :: t.getD 85 undef :: t.getD 86 undef :: t.getD 87 undef :: t.getD 88 undef :: t.getD 89 undef :: t.getD 90 undef :: t.getD 91 undef :: t.getD 92 undef :: t.getD 93 undef :: t.getD 94 undef :: t.getD 95 undef :: t.getD 96 undef :: t.getD 97 undef :: t.getD 98 undef :: t.getD 99 undef :: t.getD 100 undef :: t.getD 101 undef :: t.getD 102 undef :: t.getD 103 undef :: t.getD 104 undef :: t.getD 105 undef :: t.getD 106 undef :: t.getD 107 undef :: t.getD 108 undef :: t.getD 109 undef :: t.getD 110 undef :: t.getD 111 undef :: t.getD 112 undef :: t.getD 113 undef :: t.getD 114 undef :: t.getD 115 undef :: t.getD 116 undef :: t.getD 117 undef :: t.getD 118 undef :: t.getD 119 undef :: t.getD 120 undef :: t.getD 121 undef :: t.getD 122 undef :: t.getD 123 undef :: t.getD 124 undef :: t.getD 125 undef :: t.getD 126 undef :: t.getD 127 undef :: t.getD 128 undef :: t.getD 129 undef :: t.getD 130 undef :: t.getD 131 undef :: t.getD 132 undef :: t.getD 133 undef :: t.getD 134 undef :: t.getD 135 undef :: t.getD 136 undef :: t.getD 137 undef :: t.getD 138 undef :: t.getD 139 undef :: t.getD 140 undef :: t.getD 141 undef :: t.getD 142 undef :: []) := rfl
 rw [e2] at e; unfold nxFrame; rw [← h0, ← h2, ← h3, ← h4]; exact congrArg (fun x => ({ tmps := x, defers := [] } : Act)) e
theorem jump_ret {l : Nat} {J : Act → World → Prop} {Q : Exit → Act → World → Prop} {a : Act} {w : World} (h : Q .ret a w) : Exit.jump l J Q .ret a w := h
theorem jump_goto {l : Nat} {J : Act → World → Prop} {Q : Exit → Act → World → Prop} {a : Act} {w : World} (h : J a w) : Exit.jump l J Q (.goto l) a w := ⟨rfl, h⟩
set_option maxRecDepth 100000 in
set_option maxHeartbeats 40000000 in
theorem scanNext_any (T : Tab) (R0 : Nat) (hT : WfT T R0) (BT B : Nat) (w : World) (bs bt sb C bc cc br cr bg cg : Nat) (buf : ByteArray) (why : Nat) (at' line col : Int) (S : Src) (bv : Value) (h : ScSt B w bs bt sb C buf why 0 at' line col S bv) (hTab : TabAt BT w bt T bc cc br cr bg cg) (hTabs : Tabs w) (hG : Glob ≤ BT) (hBT : BT ≤ sb) (hC : buf.size ≤ C) (hC4 : 4 ≤ C) (hC2 : C ≤ 900000)
 (hat : 0 ≤ at' ∧ at' < 1000000000) (hline : 0 ≤ line ∧ line < 1000000000) (hcol : 0 ≤ col ∧ col < 1000000000) :
 Calls Tryz.prog 25 #[knotP bs] w (NextO C B bs bt sb at' line col (nextL T C (C + 2) buf why S run0) bv w) := by
 have H := Lib.hid (And.intro h (And.intro hTab hTabs)); have HNUM := Lib.hid (And.intro hat (And.intro hline (And.intro hcol (And.intro hC (And.intro hC4 hC2))))); have HT := Lib.hid hT; obtain ⟨R, hR⟩ : ∃ R, R = nextL T C (C + 2) buf why S run0 := ⟨_, rfl⟩; have HR := Lib.hid hR; rw [← hR]; have hlt := h.lt; have c5 := cell_of _ _ 5 _ _ _ h.sc; simp only [List.getElem?_toArray, List.getElem?_cons_zero, List.getElem?_cons_succ] at c5; clear h hTab hTabs hat hline hcol hC hC4 hC2 hT hR; go_enter Tryz.func25, Tryz.ntmps25; go_wp2_with (fail)
 refine wp_scope_ghost (rest := ?rest) 0 (fun n a w' => ∃ (t : Array Value) (buf2 : ByteArray) (why2 : Nat) (S2 : Src) (bv2 : Value) (x : Run), a = { tmps := t, defers := [] } ∧ (t.size = 143 ∧ t.getD 0 undef = knotP bs ∧ t.getD 2 undef = .pointer (some ⟨w.heap.size, 0, none⟩) ∧ t.getD 3 undef = .nilIface ∧ t.getD 4 undef = .pointer (some ⟨w.heap.size + 1, 0, none⟩)) ∧ NxSt T C B bs bt sb w.heap.size (w.heap.size + 1) at' line col R w bv n buf2 why2 S2 bv2 x w') ?hf ?pass ?first
 case hf => rfl
 case pass =>
  intro n a w1 hJ; obtain ⟨t, buf2, why2, S2, bv2, x, rfl, ⟨t1, t2, t3, t4, t5⟩, hst⟩ := hJ; rw [frame_lit bs w.heap.size (w.heap.size + 1) t t1 t2 t3 t4 t5]; generalize (fun i => t.getD i undef) = f; clear t1 t2 t3 t4 t5; unfold nxFrame; have hlt1 := hst.st.lt; obtain ⟨n', rfl⟩ : ∃ k, n = k + 1 := ⟨n - 1, by have := hst.fuel; omega⟩; obtain ⟨ao, cap, hbv2⟩ : ∃ ao cap, bv2 = .slice ao buf2.size cap := by
   rcases hst.st.buf with ⟨e, h0⟩ | ⟨g, off, cap, cells, e, _⟩
   · exact ⟨none, 0, by rw [e, h0]⟩
   · exact ⟨_, cap, e⟩
  subst hbv2; obtain ⟨y, hy⟩ : ∃ y, y = runT T buf2 (buf2.size + 1) x := ⟨_, rfl⟩; have hnum := HNUM.out; have hbsz := hst.size; have hBb := H.out.1.bB; have hlt0 := H.out.1.lt; have hown0 : ∀ g, bv.ownBlock = some g → BT ≤ g := fun g hg => by have := (H.out.1.own g hg).1; omega
  have hbel1 : Below BT w w1 := hst.keep.below (by omega) (by omega) hBT hown0; have hsz1 := hst.keep.size; have hxb1 := lt_of_some hst.run; have htab1 := H.out.2.1.below hbel1; have htabs1 : Tabs w1 := tabs_below (B := BT) H.out.2.2 hbel1 hG; have hrun := run_any T R0 HT.out buf2 (by omega) (buf2.size + 1) x w1 BT bs bt bc cc br cr bg cg (w.heap.size + 1) _ _ _ _ C at' line col hst.st.sc hst.st.buf.is htab1 htabs1 hG (by omega) (by omega) (by omega) hst.own.1 hst.run hst.alive hst.set (by omega); rw [← hy] at hrun; have HRUN := Lib.hid hrun; have HST := Lib.hid hst; have HY := Lib.hid hy
  have HTB := Lib.hid (And.intro htab1 htabs1); clear hrun hst hy htab1 htabs1 hbel1 hown0 hnum; go_upto_region 5 with (first | (go_at_call 35; refine (HRUN.out).mono ?_; rintro e w2 ⟨rfl, hrun2, hgr2⟩; have HR2 := Lib.hid (And.intro hrun2 hgr2); clear hrun2 hgr2))
  have hyle := runT_le (T := T) (s := buf2) (buf2.size + 1) x HST.out.alive; rw [← HY.out] at hyle; have hyset := runT_set HT.out (s := buf2) (buf2.size + 1) x HST.out.set; rw [← HY.out] at hyset; have hylong := runT_long (T := T) (s := buf2) (buf2.size + 1) x HST.out.long; rw [← HY.out] at hylong; have hst2 := HST.out.st.grown HR2.out.2 (by omega) (by omega) HST.out.own.1; have hkp2 := HST.out.keep.grown HR2.out.2 (by omega); have hres2 := (HR2.out.2.block w.heap.size (lt_of_some HST.out.res) (fun e => by injection e with e; omega)).trans HST.out.res
  have hbel2 : Below BT w1 w2 := ⟨HR2.out.2.os, HR2.out.2.tape, HR2.out.2.output, HR2.out.2.size, fun b hb => HR2.out.2.block b (by omega) (fun e => by injection e with e; omega)⟩; have htab2 := HTB.out.1.below hbel2; have htabs2 : Tabs w2 := tabs_below (B := BT) HTB.out.2 hbel2 hG; obtain ⟨x0, x1, x2, x3⟩ := HR2.out.1.cells; have lx2 := lt_of_some HR2.out.1; have lbs2 := hst2.lt.2.2.1
  have hpart : ∀ w', Below w2.heap.size w2 w' → Calls Tryz.prog 36 #[knotP bs, .agg #[.int .i64 y.set, .int .i64 y.alive, .int .i64 y.long, .int .i64 y.rule]] w' fun e w'' => e = .returned (.int .i64 (partT T buf2 y.set y.alive)) ∧ Below w'.heap.size w' w'' := fun w' hb => by
   have hs' := hst2.below hb; have hb' : Below BT w2 w' := hb.mono (by have := hst2.lt; omega); exact part_any T R0 HT.out buf2 (by have := HST.out.size; have := HNUM.out; omega) y w' BT bs bt bc cc br cr bg cg _ _ _ _ C at' line col hs'.sc hs'.buf.is (htab2.below hb') (tabs_below (B := BT) htabs2 hb' hG) hG (by have := hst2.lt; have := hb.size; omega) hyle.1 hyset
  have HPART := Lib.hid hpart; have hso : ∀ w', Below w2.heap.size w2 w' → Below w2.heap.size w2 w' ∧ w'.cell? ⟨w.heap.size + 1, 0, none⟩ = some (.int .i64 y.set) ∧ w'.cell? ⟨w.heap.size + 1, 1, none⟩ = some (.int .i64 y.alive) ∧ w'.cell? ⟨w.heap.size + 1, 2, none⟩ = some (.int .i64 y.long) ∧ w'.cell? ⟨w.heap.size + 1, 3, none⟩ = some (.int .i64 y.rule) := fun w' hb =>
   ⟨hb, (below_cell hb ⟨w.heap.size + 1, 0, none⟩ lx2).trans x0, (below_cell hb ⟨w.heap.size + 1, 1, none⟩ lx2).trans x1, (below_cell hb ⟨w.heap.size + 1, 2, none⟩ lx2).trans x2, (below_cell hb ⟨w.heap.size + 1, 3, none⟩ lx2).trans x3⟩
  have HSO := Lib.hid hso; have hal : IntKind.i64.wrap ((y.alive : Int) + (partT T buf2 y.set y.alive : Int)) = (aliveT T buf2 y : Int) := by
   have h1 := aliveT_le (T := T) (s := buf2) (x := y) hyle.1; have h2 := HST.out.size; have h3 := HNUM.out; unfold aliveT at h1 ⊢; rw [IntWalk.i64_in _ (by omega)]; push_cast; rfl
  have H2 := Lib.hid (And.intro hst2 (And.intro hkp2 (And.intro hres2 (And.intro htab2 htabs2)))); have HYY := Lib.hid (And.intro hyle (And.intro hyset hylong)); clear hst2 hkp2 hres2 hbel2 htab2 htabs2 x0 x1 x2 x3 hpart hso hyle hyset hylong
  go_region_held3 (fun w' => Below w2.heap.size w2 w' ∧ w'.cell? ⟨w.heap.size + 1, 0, none⟩ = some (.int .i64 y.set) ∧ w'.cell? ⟨w.heap.size + 1, 1, none⟩ = some (.int .i64 y.alive) ∧ w'.cell? ⟨w.heap.size + 1, 2, none⟩ = some (.int .i64 y.long) ∧ w'.cell? ⟨w.heap.size + 1, 3, none⟩ = some (.int .i64 y.rule)) (first | exact HSO.out _ (Below.refl _ _).drew | exact HSO.out _ HBW.out) (first | (go_at_call 36; refine (HPART.out _ (by assumption)).mono ?_; rintro e w3 ⟨rfl, hb3⟩; have HBW := Lib.hid (below_then (by assumption) hb3 (Below.size (by assumption)))) | (go_at_call 36; refine (HPART.out _ ((Below.refl _ _).drew)).mono ?_; rintro e w3 ⟨rfl, hb3⟩; have HBW : Hid (Below w2.heap.size w2 w3) := Lib.hid (⟨hb3.os, hb3.tape, hb3.output, hb3.size, hb3.block⟩)))
  have hb3 := HBW.out; have hst3 := H2.out.1.below hb3; have hkp3 := H2.out.2.1.trans (Keep.of_below hb3); have hres3 := (hb3.block w.heap.size (lt_of_some H2.out.2.2.1)).trans H2.out.2.2.1; have hrun3 : RunAt w3 (w.heap.size + 1) y := (hb3.block _ lx2).trans HR2.out.1; have htab3 := H2.out.2.2.2.1.below (hb3.mono (by have := H2.out.1.lt; omega) : Below BT w2 w3); have htabs3 : Tabs w3 := tabs_below (B := BT) H2.out.2.2.2.2 (hb3.mono (by have := H2.out.1.lt; omega)) hG; have s2 := cell_of _ _ 2 _ _ _ hst3.sc; have s3 := cell_of _ _ 3 _ _ _ hst3.sc; have s4 := cell_of _ _ 4 _ _ _ hst3.sc
  have s5 := cell_of _ _ 5 _ _ _ hst3.sc; obtain ⟨x0, x1, x2, x3⟩ := hrun3.cells; simp only [List.getElem?_toArray, List.getElem?_cons_zero, List.getElem?_cons_succ] at s2 s3 s4 s5; have lbs3 := lt_of_some hst3.sc; have lx3 := lt_of_some hrun3; have hbb := hst3.buf.is; have hsz6 : buf2.size < 1000000 := by have := HST.out.size; have := HNUM.out; omega
  have HFULL : Hid (∀ w', Below w3.heap.size w3 w' → Calls Tryz.prog 38 #[.slice ao buf2.size cap] w' fun e w'' => e = .returned (.bool (fullP buf2 0)) ∧ Below w'.heap.size w' w'') := Lib.hid fun w' hb => by
   have hb' : Below BT w3 w' := hb.mono (by have := H2.out.1.lt; have := hb3.size; omega); exact full_buf buf2 hsz6 ao cap w' (tabs_below (B := BT) htabs3 hb' hG) ((hst3.below hb).buf.is)
  have hres := HST.out.rest; rw [nextL, ← HY.out] at hres; have HRES := Lib.hid hres; have hal2 : aliveT T buf2 y ≤ buf2.size := aliveT_le HYY.out.1.1; have H3 := Lib.hid (And.intro hst3 (And.intro hkp3 (And.intro hres3 (And.intro hrun3 (And.intro htab3 htabs3))))); have HAL := Lib.hid hal2; rw [errV_zero] at s5; have fz5 := free_of _ _ 5 _ _ H3.out.1.sc; have fzx := free_of _ _ 2 _ _ H3.out.2.2.2.1; have fr3 := H3.out.2.2.1; clear hb3 hst3 hkp3 hres3 hrun3 htab3 htabs3 hbb hres hal hal2; generalize hA : aliveT T buf2 y = A at *; have HA := Lib.hid hA; clear hA; by_cases hw0 : why2 = 0
  · subst hw0
    rw [errV_zero] at s4
    have HCELLS : Hid (∀ W, Below w3.heap.size w3 W → W.cell? ⟨bs, 2, none⟩ = some (.int .i64 C) ∧ W.cell? ⟨bs, 3, none⟩ = some (.slice ao buf2.size cap) ∧ W.cell? ⟨bs, 4, none⟩ = some .nilIface ∧ W.cell? ⟨bs, 5, none⟩ = some .nilIface ∧ W.cell? ⟨w.heap.size + 1, 0, none⟩ = some (.int .i64 y.set) ∧ W.cell? ⟨w.heap.size + 1, 1, none⟩ = some (.int .i64 y.alive) ∧ W.cell? ⟨w.heap.size + 1, 2, none⟩ = some (.int .i64 y.long) ∧ W.cell? ⟨w.heap.size + 1, 3, none⟩ = some (.int .i64 y.rule) ∧ W.frozen? ⟨bs, 5, none⟩ = false ∧ W.frozen? ⟨w.heap.size + 1, 2, none⟩ = false ∧ bs < W.heap.size ∧ w.heap.size + 1 < W.heap.size) := Lib.hid fun W hb =>
     ⟨(below_cell hb ⟨bs, 2, none⟩ lbs3).trans s2, (below_cell hb ⟨bs, 3, none⟩ lbs3).trans s3, (below_cell hb ⟨bs, 4, none⟩ lbs3).trans s4, (below_cell hb ⟨bs, 5, none⟩ lbs3).trans s5, (below_cell hb ⟨w.heap.size + 1, 0, none⟩ lx3).trans x0, (below_cell hb ⟨w.heap.size + 1, 1, none⟩ lx3).trans x1, (below_cell hb ⟨w.heap.size + 1, 2, none⟩ lx3).trans x2, (below_cell hb ⟨w.heap.size + 1, 3, none⟩ lx3).trans x3,
      free_of _ _ 5 _ _ ((hb.block bs lbs3).trans H3.out.1.sc), free_of _ _ 2 _ _ ((hb.block _ lx3).trans H3.out.2.2.2.1), Nat.lt_of_lt_of_le lbs3 hb.size, Nat.lt_of_lt_of_le lx3 hb.size⟩
    have HBw3 : Hid (Below w3.heap.size w3 w3) := Lib.hid (Below.refl _ _); go_upto_region 7 with (first | (go_at_call 37; refine (is_nil 13 _).mono ?_; rintro e w' ⟨rfl, hw⟩; obtain rfl := hw.symm))
    by_cases hC : C ≤ A
    · have hzC : (C : Int) ≤ (A : Int) := by omega
      go_upto_region 17 with (fail)
      have hsE : ScSt B (w3.setCell ⟨bs, 5, none⟩ (.iface 51 (.int .i64 10))) bs bt sb C buf2 0 10 at' line col S2 (.slice ao buf2.size cap) := by
       have h := H3.out.1.setErr 10; rw [show errV 10 = .iface 51 (.int .i64 10) from rfl] at h; exact h
      have hkE := H3.out.2.1.trans (Keep.set (bs := bs) (sb := sb) (o := 5) (w := w3) (.iface 51 (.int .i64 10))); have hrE := (heap_set w3 ⟨bs, 5, none⟩ (.iface 51 (.int .i64 10)) w.heap.size (by show w.heap.size ≠ bs; omega)).trans H3.out.2.2.1; generalize w3.setCell ⟨bs, 5, none⟩ (.iface 51 (.int .i64 10)) = wE at hsE hkE hrE ⊢; have e5 := cell_of _ _ 5 _ _ _ hsE.sc; simp only [List.getElem?_toArray, List.getElem?_cons_zero, List.getElem?_cons_succ] at e5; rw [show errV 10 = .iface 51 (.int .i64 10) from rfl] at e5; have HE := Lib.hid (And.intro hsE (And.intro hkE hrE))
      have q0 := cell_of _ _ 0 _ _ _ hrE; have q1 := cell_of _ _ 1 _ _ _ hrE; have q2 := cell_of _ _ 2 _ _ _ hrE; have q3 := cell_of _ _ 3 _ _ _ hrE; have q4 := cell_of _ _ 4 _ _ _ hrE; simp only [List.getElem?_toArray, List.getElem?_cons_zero, List.getElem?_cons_succ] at q0 q1 q2 q3 q4; have r0 := free_of _ _ 0 _ _ hrE; have r1 := free_of _ _ 1 _ _ hrE; have r2 := free_of _ _ 2 _ _ hrE; have r3 := free_of _ _ 3 _ _ hrE; have r4 := free_of _ _ 4 _ _ hrE; have lE := lt_of_some hrE; clear hsE hkE hrE; refine wp_region_noPanic ?_
      refine wp_region_sink (fun w' => w'.cell? ⟨bs, 5, none⟩ = some ((.iface 51 (.int .i64 10)))) 6 (by kernel_rfl) e5 (fun hS0 => ?_); refine sink_t 0 hS0 ?_ ?_ (v := ?_); rotate_left
      · intro w9 hS9
        (try dsimp only at hS9); go_simp; (try with_reducible rfl)
      (try simp only [Act.put, lA, lB, lC]); refine sink_t 1 hS0 ?_ ?_ (v := ?_); rotate_left
      · intro w9 hS9
        (try dsimp only at hS9); go_simp; (try with_reducible rfl)
      (try simp only [Act.put, lA, lB, lC]); refine sink_t 2 hS0 ?_ ?_ (v := ?_); rotate_left
      · intro w9 hS9
        (try dsimp only at hS9); go_simp; (try with_reducible rfl)
      (try simp only [Act.put, lA, lB, lC]); refine sink_t 3 hS0 ?_ ?_ (v := ?_); rotate_left
      · intro w9 hS9
        (try dsimp only at hS9); go_simp; (try with_reducible rfl)
      (try simp only [Act.put, lA, lB, lC]); refine sink_t 4 hS0 ?_ ?_ (v := ?_); rotate_left
      · intro w9 hS9
        (try dsimp only at hS9); go_simp; (try with_reducible rfl)
      (try simp only [Act.put, lA, lB, lC]); refine sink_step 5 (by rfl) (by kernel_rfl) (fun K hK => ?_); go_simp; have hgR : wE.grownBy (((((wE.setCell ⟨w.heap.size, 0, none⟩ (.int .i64 0)).setCell ⟨w.heap.size, 1, none⟩ (.int .i64 0)).setCell ⟨w.heap.size, 2, none⟩ (.int .i64 0)).setCell ⟨w.heap.size, 3, none⟩ (.int .i64 0)).setCell ⟨w.heap.size, 4, none⟩ (.string ⟨#[]⟩)).drew (some w.heap.size) :=
       grown_drewN (grown_trans (grown_trans (grown_trans (grown_trans (grown_set _ _ 0 _) (grown_set _ _ 1 _)) (grown_set _ _ 2 _)) (grown_set _ _ 3 _)) (grown_set _ _ 4 _)) 1
      have hrR : (((((wE.setCell ⟨w.heap.size, 0, none⟩ (.int .i64 0)).setCell ⟨w.heap.size, 1, none⟩ (.int .i64 0)).setCell ⟨w.heap.size, 2, none⟩ (.int .i64 0)).setCell ⟨w.heap.size, 3, none⟩ (.int .i64 0)).setCell ⟨w.heap.size, 4, none⟩ (.string ⟨#[]⟩)).drew.heap[w.heap.size]? = some (.cells #[.int .i64 0, .int .i64 0, .int .i64 0, .int .i64 0, .string ⟨#[]⟩] 28 (0, 0)) :=
       heap_set_same _ _ 4 _ _ _ _ (heap_set_same _ _ 3 _ _ _ _ (heap_set_same _ _ 2 _ _ _ _ (heap_set_same _ _ 1 _ _ _ _ (heap_set_same _ _ 0 _ _ _ _ HE.out.2.2))))
      generalize (((((wE.setCell ⟨w.heap.size, 0, none⟩ (.int .i64 0)).setCell ⟨w.heap.size, 1, none⟩ (.int .i64 0)).setCell ⟨w.heap.size, 2, none⟩ (.int .i64 0)).setCell ⟨w.heap.size, 3, none⟩ (.int .i64 0)).setCell ⟨w.heap.size, 4, none⟩ (.string ⟨#[]⟩)).drew = wR at hgR hrR ⊢; have hv5 : wR.cell? ⟨bs, 5, none⟩ = some ((.iface 51 (.int .i64 10))) := (World.cell?_of_block (hgR.block bs (by have := HE.out.1.lt; omega) (fun e => by injection e with e; omega))).trans e5; have HGR := Lib.hid (And.intro hgR hrR); refine hK.out _ _ (fun _ => hv5) ?_; clear hK K hgR hrR q0 q1 q2 q3 q4 r0 r1 r2 r3 r4
      (try simp only [Act.put, lA, lB, lC]); refine sink_step 6 (by rfl) (by kernel_rfl) (fun K hK => ?_); go_simp; refine hK.out _ _ (fun h => absurd rfl h) ?_; clear hK K; (try simp only [Act.put, lA, lB, lC]); refine sink_done (by kernel_rfl) ?_; refine NoPanic.normal ?_; go_wp2_with (fail); have z0 := cell_of _ _ 0 _ _ _ HGR.out.2; have z1 := cell_of _ _ 1 _ _ _ HGR.out.2; have z2 := cell_of _ _ 2 _ _ _ HGR.out.2; have z3 := cell_of _ _ 3 _ _ _ HGR.out.2; have z4 := cell_of _ _ 4 _ _ _ HGR.out.2
      simp only [List.getElem?_toArray, List.getElem?_cons_zero, List.getElem?_cons_succ] at z0 z1 z2 z3 z4; have hReq : R = (.err 10, buf2, 0, S2) := by
       have h := HRES.out; rw [if_pos hC] at h; exact h.symm
      refine jump_ret ?_; refine bodyPost_ret (v := .tuple #[.agg #[.int .i64 0, .int .i64 0, .int .i64 0, .int .i64 0, .string ⟨#[]⟩], (.iface 51 (.int .i64 10))]) (by simp [results, Tryz.results25, go_sem, z0, z1, z2, z3, z4]) rfl ?_; rw [hReq]; refine ⟨by rw [show errV 10 = .iface 51 (.int .i64 10) from rfl], .slice ao buf2.size cap, HE.out.1.grown HGR.out.1 (by omega) (by omega) HST.out.own.2, HE.out.2.1.grown HGR.out.1 (Nat.le_refl _)⟩
    · have hzC : (A : Int) < (C : Int) := by omega
      have hzC2 : ¬ (C : Int) ≤ (A : Int) := by omega
      by_cases hs : A = buf2.size
      · have hzs : ((A : Int) == (buf2.size : Int)) = true := by simp; omega
        go_upto_region 11 with (fail)
        have hszC : buf2.size < C := by omega
        have hmore := more_any B w3 bs bt sb C buf2 0 0 at' line col S2 (.slice ao buf2.size cap) H3.out.1 hszC (by have := HNUM.out; omega); have HMORE := Lib.hid hmore; clear hmore; go_wp2_with (first | (go_at_call 39; refine (HMORE.out).mono ?_; rintro e w9 ⟨rfl, bv9, hst9, hkp9⟩; have H9 := Lib.hid (And.intro hst9 hkp9); clear hst9 hkp9)); refine wp_goto ?_; simp only [Exit.inBlock, Exit.then]; refine jump_goto ?_; have hfu := HST.out.fuel; have hrs := HRES.out; rw [if_neg hC, if_pos (.inl ⟨hs, by trivial⟩)] at hrs; rw [if_pos rfl] at hfu
        exact ⟨n', Nat.lt_succ_self _, _, (moreP C buf2 S2).1, (moreP C buf2 S2).2.1, (moreP C buf2 S2).2.2, bv9, y, rfl, ⟨rfl, rfl, rfl, rfl, rfl⟩, NxSt.more H3.out.2.1 H3.out.2.2.2.1 H3.out.2.2.1 HST.out.own HYY.out.1.1 HYY.out.2.1 HYY.out.2.2 HST.out.size (by omega) hrs H9.out.1 H9.out.2 (by omega)⟩
      · have hzs : ((A : Int) == (buf2.size : Int)) = false := by simp; omega
        by_cases hr : y.rule < 0
        · cases hf : fullP buf2 0 with
          | false =>
           have HF := Lib.hid hf; clear hf; go_upto_region 11 with (first | (go_at_call 38; refine (HFULL.out _ HBw3.out).mono ?_; rintro e w4 ⟨rfl, hbf⟩; rw [HF.out]; have HBw4 : Hid (Below w3.heap.size w3 w4) := Lib.hid (below_then HBw3.out hbf HBw3.out.size); obtain ⟨v2, v3, v4, v5, vx0, vx1, vx2, vx3, vf5, vfx, vlb, vlx⟩ := HCELLS.out w4 HBw4.out; clear hbf))
           have h3 := HBw4.out; have H40 := And.intro (H3.out.1.below h3) (And.intro (H3.out.2.1.trans (Keep.of_below h3)) (And.intro ((h3.block w.heap.size (lt_of_some H3.out.2.2.1)).trans H3.out.2.2.1) (And.intro ((h3.block _ (lt_of_some H3.out.2.2.2.1)).trans H3.out.2.2.2.1 : RunAt w4 (w.heap.size + 1) y) (And.intro (H3.out.2.2.2.2.1.below (h3.mono (by have := H3.out.1.lt; omega) : Below BT w3 w4)) (tabs_below (B := BT) H3.out.2.2.2.2.2 (h3.mono (by have := H3.out.1.lt; omega)) hG : Tabs w4))))); have H4 := Lib.hid H40; clear h3 H40
           have hszC : buf2.size < C := by have h1 := not_full_le (byt_lt buf2 0) (by have h := HF.out; unfold fullP at h; exact h); have h2 := HNUM.out; omega
           have hmore := more_any B w4 bs bt sb C buf2 0 0 at' line col S2 (.slice ao buf2.size cap) H4.out.1 hszC (by have := HNUM.out; omega); have HMORE := Lib.hid hmore; clear hmore; go_wp2_with (first | (go_at_call 39; refine (HMORE.out).mono ?_; rintro e w9 ⟨rfl, bv9, hst9, hkp9⟩; have H9 := Lib.hid (And.intro hst9 hkp9); clear hst9 hkp9)); refine wp_goto ?_; simp only [Exit.inBlock, Exit.then]; refine jump_goto ?_; have hfu := HST.out.fuel; have hrs := HRES.out; rw [if_neg hC, if_pos (.inr ⟨hr, by trivial, HF.out⟩)] at hrs; rw [if_pos rfl] at hfu
           exact ⟨n', Nat.lt_succ_self _, _, (moreP C buf2 S2).1, (moreP C buf2 S2).2.1, (moreP C buf2 S2).2.2, bv9, y, rfl, ⟨rfl, rfl, rfl, rfl, rfl⟩, NxSt.more H4.out.2.1 H4.out.2.2.2.1 H4.out.2.2.1 HST.out.own HYY.out.1.1 HYY.out.2.1 HYY.out.2.2 HST.out.size (by omega) hrs H9.out.1 H9.out.2 (by omega)⟩
          | true =>
           have HF := Lib.hid hf; clear hf; have hszp : 0 < buf2.size := by have h1 := HAL.out; have h2 := HA.out; omega
           have hz0 : ((buf2.size : Int) == 0) = false := by rw [beq_eq_false_iff_ne]; omega
           go_upto_region 16 with (first | (go_at_call 38; refine (HFULL.out _ HBw3.out).mono ?_; rintro e w4 ⟨rfl, hbf⟩; rw [HF.out]; have HBw4 : Hid (Below w3.heap.size w3 w4) := Lib.hid (below_then HBw3.out hbf HBw3.out.size); obtain ⟨v2, v3, v4, v5, vx0, vx1, vx2, vx3, vf5, vfx, vlb, vlx⟩ := HCELLS.out w4 HBw4.out; clear hbf) | (go_at_call 38; refine (HFULL.out _ HBw4.out).mono ?_; rintro e w5 ⟨rfl, hbf⟩; rw [HF.out]; have HBw5 : Hid (Below w3.heap.size w3 w5) := Lib.hid (below_then HBw4.out hbf HBw4.out.size); obtain ⟨u2, u3, u4, u5, ux0, ux1, ux2, ux3, uf5, ufx, ulb, ulx⟩ := HCELLS.out w5 HBw5.out; clear hbf))
           have h3 := HBw5.out; have H50 := And.intro (H3.out.1.below h3) (And.intro (H3.out.2.1.trans (Keep.of_below h3)) (And.intro ((h3.block w.heap.size (lt_of_some H3.out.2.2.1)).trans H3.out.2.2.1) (And.intro ((h3.block _ (lt_of_some H3.out.2.2.2.1)).trans H3.out.2.2.2.1 : RunAt w5 (w.heap.size + 1) y) (And.intro (H3.out.2.2.2.2.1.below (h3.mono (by have := H3.out.1.lt; omega) : Below BT w3 w5)) (tabs_below (B := BT) H3.out.2.2.2.2.2 (h3.mono (by have := H3.out.1.lt; omega)) hG : Tabs w5))))); have H5 := Lib.hid H50; clear h3 H50
           obtain ⟨g, off, rfl⟩ : ∃ g off, ao = some (⟨g, off, none⟩ : Addr) := by
            rcases H5.out.1.buf with ⟨e, h0⟩ | ⟨g, off, c', cells, e, _⟩
            · omega
            · cases e; exact ⟨g, off, rfl⟩
           have hgb : g ≠ bs := (H5.out.1.own g rfl).2; obtain ⟨kk, hkk⟩ : ∃ kk, kk = (Utf8.decode buf2 0).2 := ⟨_, rfl⟩; have hkl : 1 ≤ kk ∧ kk ≤ buf2.size := by have h9 := decode_adv buf2 0 hszp; omega
           have hbi : ∀ i, i < buf2.size → w5.cell? ⟨g, off + i, none⟩ = some (.int .u8 (byt buf2 i)) := by
            rcases H5.out.1.buf.is with ⟨e, h0⟩ | ⟨g', off', c', e, h1, h2, h3⟩
            · cases e
            · cases e; exact h3
           have hdec := decode_buf buf2 0 g off cap w5 hszp H5.out.2.2.2.2.2 hbi; simp only [Nat.add_zero, Nat.sub_zero] at hdec; rw [← hkk] at hdec; have HDEC := Lib.hid hdec; have HKK := Lib.hid hkk; clear hdec hkk hbi; go_upto_region 20 with (first | (go_at_call 40; refine (HDEC.out).mono ?_; rintro e wd ⟨rfl, hbd⟩; have HBwd : Hid (Below w3.heap.size w3 wd) := Lib.hid (below_then HBw5.out hbd HBw5.out.size); obtain ⟨d2, d3, d4, d5, dx0, dx1, dx2, dx3, df5, dfx, dlb, dlx⟩ := HCELLS.out wd HBwd.out; clear hbd))
           have h3 := HBwd.out; have Hd0 := And.intro (H3.out.1.below h3) (And.intro (H3.out.2.1.trans (Keep.of_below h3)) (And.intro ((h3.block w.heap.size (lt_of_some H3.out.2.2.1)).trans H3.out.2.2.1) (And.intro ((h3.block _ (lt_of_some H3.out.2.2.2.1)).trans H3.out.2.2.2.1 : RunAt wd (w.heap.size + 1) y) (And.intro (H3.out.2.2.2.2.1.below (h3.mono (by have := H3.out.1.lt; omega) : Below BT w3 wd)) (tabs_below (B := BT) H3.out.2.2.2.2.2 (h3.mono (by have := H3.out.1.lt; omega)) hG : Tabs wd))))); have Hd := Lib.hid Hd0; clear h3 Hd0
           have hxr : RunAt (wd.setCell ⟨w.heap.size + 1, 2, none⟩ (.int .i64 kk)) (w.heap.size + 1) ⟨y.set, y.alive, kk, y.rule⟩ := heap_set_same _ _ 2 _ _ _ _ Hd.out.2.2.2.1; have hgx : wd.grownBy (wd.setCell ⟨w.heap.size + 1, 2, none⟩ (.int .i64 kk)) (some (w.heap.size + 1)) := grown_set _ _ 2 _; have hxs := Hd.out.1.grown hgx (by omega) (by omega) HST.out.own.1; have hxk := Hd.out.2.1.grown hgx (by omega); have hxq := (hgx.block w.heap.size (lt_of_some Hd.out.2.2.1) (fun e => by injection e with e; omega)).trans Hd.out.2.2.1
           generalize wd.setCell ⟨w.heap.size + 1, 2, none⟩ (.int .i64 kk) = wX at hxr hxs hxk hxq ⊢; have HX := Lib.hid (And.intro hxs (And.intro hxk (And.intro hxq hxr))); clear hxs hxk hxq hgx; obtain ⟨long, hlo⟩ : ∃ long, long = kk := ⟨_, rfl⟩; rw [← hlo] at HX hxr; have hle : long ≤ buf2.size := by omega
           have HLO := Lib.hid (hlo.trans HKK.out); clear hlo; have hbi : buf2.size ≤ cap ∧ g < wX.heap.size ∧ ∀ i, i < buf2.size → wX.cell? ⟨g, off + i, none⟩ = some (.int .u8 (byt buf2 i)) := by
            rcases HX.out.1.buf.is with ⟨e, h0⟩ | ⟨g', off', c', e, h1, h2, h3⟩
            · cases e
            · cases e; exact ⟨h1, h2, h3⟩
           have htok := token_any buf2 hsz6 ⟨y.set, y.alive, long, y.rule⟩ wX bs bt g off cap _ _ _ C at' line col HX.out.1.sc hbi.1 hbi.2.1 hgb hbi.2.2 hle HNUM.out.1 HNUM.out.2.1 HNUM.out.2.2.1; have HTOK := Lib.hid htok; obtain ⟨c0, c1, c2, c3⟩ := hxr.cells; have lxX := lt_of_some hxr; have lqX := lt_of_some HX.out.2.2.1; clear htok hbi hxr
           go_wp2_with (first | (go_at_call 41; refine (HTOK.out).mono ?_; rintro e w7 ⟨rfl, hg7, pa, hpa, hsc7⟩; have hr7 := (hg7.block w.heap.size lqX (fun e => by injection e with e; omega)).trans HX.out.2.2.1; have q0 := cell_of _ _ 0 _ _ _ hr7; have q1 := cell_of _ _ 1 _ _ _ hr7; have q2 := cell_of _ _ 2 _ _ _ hr7; have q3 := cell_of _ _ 3 _ _ _ hr7; have q4 := cell_of _ _ 4 _ _ _ hr7; simp only [List.getElem?_toArray, List.getElem?_cons_zero, List.getElem?_cons_succ] at q0 q1 q2 q3 q4; have r0 := free_of _ _ 0 _ _ hr7; have r1 := free_of _ _ 1 _ _ hr7; have r2 := free_of _ _ 2 _ _ hr7; have r3 := free_of _ _ 3 _ _ hr7; have r4 := free_of _ _ 4 _ _ hr7; have l7 := lt_of_some hr7; have H7 := Lib.hid (And.intro hg7 (And.intro hpa (And.intro hsc7 hr7))); clear hg7 hpa hsc7 hr7))
           have hgR : w7.grownBy (((((w7.setCell ⟨w.heap.size, 0, none⟩ (.int .i64 y.rule)).setCell ⟨w.heap.size, 1, none⟩ (.int .i64 at')).setCell ⟨w.heap.size, 2, none⟩ (.int .i64 line)).setCell ⟨w.heap.size, 3, none⟩ (.int .i64 col)).setCell ⟨w.heap.size, 4, none⟩ (.string (buf2.extract 0 long))) (some w.heap.size) :=
            grown_trans (grown_trans (grown_trans (grown_trans (grown_set _ _ 0 _) (grown_set _ _ 1 _)) (grown_set _ _ 2 _)) (grown_set _ _ 3 _)) (grown_set _ _ 4 _)
           have hrR : (((((w7.setCell ⟨w.heap.size, 0, none⟩ (.int .i64 y.rule)).setCell ⟨w.heap.size, 1, none⟩ (.int .i64 at')).setCell ⟨w.heap.size, 2, none⟩ (.int .i64 line)).setCell ⟨w.heap.size, 3, none⟩ (.int .i64 col)).setCell ⟨w.heap.size, 4, none⟩ (.string (buf2.extract 0 long))).heap[w.heap.size]? = some (.cells #[.int .i64 y.rule, .int .i64 at', .int .i64 line, .int .i64 col, .string (buf2.extract 0 long)] 28 (0, 0)) :=
            heap_set_same _ _ 4 _ _ _ _ (heap_set_same _ _ 3 _ _ _ _ (heap_set_same _ _ 2 _ _ _ _ (heap_set_same _ _ 1 _ _ _ _ (heap_set_same _ _ 0 _ _ _ _ H7.out.2.2.2))))
           generalize ((((w7.setCell ⟨w.heap.size, 0, none⟩ (.int .i64 y.rule)).setCell ⟨w.heap.size, 1, none⟩ (.int .i64 at')).setCell ⟨w.heap.size, 2, none⟩ (.int .i64 line)).setCell ⟨w.heap.size, 3, none⟩ (.int .i64 col)).setCell ⟨w.heap.size, 4, none⟩ (.string (buf2.extract 0 long)) = wR at hgR hrR ⊢; have z0 := cell_of _ _ 0 _ _ _ hrR; have z1 := cell_of _ _ 1 _ _ _ hrR; have z2 := cell_of _ _ 2 _ _ _ hrR; have z3 := cell_of _ _ 3 _ _ _ hrR; have z4 := cell_of _ _ 4 _ _ _ hrR; simp only [List.getElem?_toArray, List.getElem?_cons_zero, List.getElem?_cons_succ] at z0 z1 z2 z3 z4
           have hReq : R = (.tok y.rule long, buf2, 0, S2) := by
            have h := HRES.out; rw [if_neg hC, if_neg (by rintro (h9 | h9); exact hs h9.1; rw [HF.out] at h9; exact absurd h9.2.2 (by decide)), if_neg (by rintro (h9 | h9 | h9); exact hs h9.1; (rw [HF.out] at h9; exact absurd h9.2.2 (by decide)); omega), if_pos hr] at h; rw [← h, HLO.out]
           refine jump_ret ?_; refine bodyPost_ret (v := .tuple #[.agg #[.int .i64 y.rule, .int .i64 at', .int .i64 line, .int .i64 col, .string (buf2.extract 0 long)], .nilIface]) (by simp [results, Tryz.results25, go_sem, z0, z1, z2, z3, z4]) rfl ?_; rw [hReq]; have hfin := HX.out.1.tok H7.out.2.2.1 H7.out.1 hle H7.out.2.1; have hpab : ∀ x, x = w.heap.size → (Value.slice (some pa) (buf2.size - long) (cap - long)).ownBlock ≠ some x := fun x hx e => by
            have h8 := hfin.2.new x e
            rcases h8 with h8 | h8
            · exact HST.out.own.2 (by rw [← hx]; exact h8)
            · omega
           exact ⟨rfl, _, hfin.1.grown hgR (by omega) (by omega) (hpab _ rfl), (HX.out.2.1.trans hfin.2).grown hgR (Nat.le_refl _)⟩
        · have hszp : 0 < buf2.size := by have h1 := HAL.out; have h2 := HA.out; omega
          have hz0 : ((buf2.size : Int) == 0) = false := by rw [beq_eq_false_iff_ne]; omega
          go_upto_region 16 with (fail)
          obtain ⟨g, off, rfl⟩ : ∃ g off, ao = some (⟨g, off, none⟩ : Addr) := by
           rcases H3.out.1.buf with ⟨e, h0⟩ | ⟨g, off, c', cells, e, _⟩
           · omega
           · cases e; exact ⟨g, off, rfl⟩
          have hgb : g ≠ bs := (H3.out.1.own g rfl).2; go_upto_region 20 with (fail)
          obtain ⟨wX, hwX⟩ : ∃ wX, wX = w3 := ⟨_, rfl⟩; obtain ⟨long, hlo⟩ : ∃ long, long = y.long := ⟨_, rfl⟩; have hxr : RunAt wX (w.heap.size + 1) ⟨y.set, y.alive, long, y.rule⟩ := by rw [hwX, hlo]; exact H3.out.2.2.2.1
          have HX : Hid (ScSt B wX bs bt sb C buf2 0 0 at' line col S2 (.slice (some ⟨g, off, none⟩) buf2.size cap) ∧ Keep bs sb bv (.slice (some ⟨g, off, none⟩) buf2.size cap) w wX ∧ wX.heap[w.heap.size]? = some (.cells #[.int .i64 0, .int .i64 0, .int .i64 0, .int .i64 0, .string ⟨#[]⟩] 28 (0, 0)) ∧ RunAt wX (w.heap.size + 1) ⟨y.set, y.alive, long, y.rule⟩) := Lib.hid ⟨by rw [hwX]; exact H3.out.1, by rw [hwX]; exact H3.out.2.1, by rw [hwX]; exact H3.out.2.2.1, hxr⟩; rw [← hwX]; have hle : long ≤ buf2.size := by have h8 := HYY.out.2.2; have h9 := HYY.out.1.1; omega
          have HLO := Lib.hid hlo; clear hlo hwX; have hbi : buf2.size ≤ cap ∧ g < wX.heap.size ∧ ∀ i, i < buf2.size → wX.cell? ⟨g, off + i, none⟩ = some (.int .u8 (byt buf2 i)) := by
           rcases HX.out.1.buf.is with ⟨e, h0⟩ | ⟨g', off', c', e, h1, h2, h3⟩
           · cases e
           · cases e; exact ⟨h1, h2, h3⟩
          have htok := token_any buf2 hsz6 ⟨y.set, y.alive, long, y.rule⟩ wX bs bt g off cap _ _ _ C at' line col HX.out.1.sc hbi.1 hbi.2.1 hgb hbi.2.2 hle HNUM.out.1 HNUM.out.2.1 HNUM.out.2.2.1; have HTOK := Lib.hid htok; obtain ⟨c0, c1, c2, c3⟩ := hxr.cells; have lxX := lt_of_some hxr; have lqX := lt_of_some HX.out.2.2.1; clear htok hbi hxr
          go_wp2_with (first | (go_at_call 41; refine (HTOK.out).mono ?_; rintro e w7 ⟨rfl, hg7, pa, hpa, hsc7⟩; have hr7 := (hg7.block w.heap.size lqX (fun e => by injection e with e; omega)).trans HX.out.2.2.1; have q0 := cell_of _ _ 0 _ _ _ hr7; have q1 := cell_of _ _ 1 _ _ _ hr7; have q2 := cell_of _ _ 2 _ _ _ hr7; have q3 := cell_of _ _ 3 _ _ _ hr7; have q4 := cell_of _ _ 4 _ _ _ hr7; simp only [List.getElem?_toArray, List.getElem?_cons_zero, List.getElem?_cons_succ] at q0 q1 q2 q3 q4; have r0 := free_of _ _ 0 _ _ hr7; have r1 := free_of _ _ 1 _ _ hr7; have r2 := free_of _ _ 2 _ _ hr7; have r3 := free_of _ _ 3 _ _ hr7; have r4 := free_of _ _ 4 _ _ hr7; have l7 := lt_of_some hr7; have H7 := Lib.hid (And.intro hg7 (And.intro hpa (And.intro hsc7 hr7))); clear hg7 hpa hsc7 hr7))
          have hgR : w7.grownBy (((((w7.setCell ⟨w.heap.size, 0, none⟩ (.int .i64 y.rule)).setCell ⟨w.heap.size, 1, none⟩ (.int .i64 at')).setCell ⟨w.heap.size, 2, none⟩ (.int .i64 line)).setCell ⟨w.heap.size, 3, none⟩ (.int .i64 col)).setCell ⟨w.heap.size, 4, none⟩ (.string (buf2.extract 0 long))) (some w.heap.size) :=
           grown_trans (grown_trans (grown_trans (grown_trans (grown_set _ _ 0 _) (grown_set _ _ 1 _)) (grown_set _ _ 2 _)) (grown_set _ _ 3 _)) (grown_set _ _ 4 _)
          have hrR : (((((w7.setCell ⟨w.heap.size, 0, none⟩ (.int .i64 y.rule)).setCell ⟨w.heap.size, 1, none⟩ (.int .i64 at')).setCell ⟨w.heap.size, 2, none⟩ (.int .i64 line)).setCell ⟨w.heap.size, 3, none⟩ (.int .i64 col)).setCell ⟨w.heap.size, 4, none⟩ (.string (buf2.extract 0 long))).heap[w.heap.size]? = some (.cells #[.int .i64 y.rule, .int .i64 at', .int .i64 line, .int .i64 col, .string (buf2.extract 0 long)] 28 (0, 0)) :=
           heap_set_same _ _ 4 _ _ _ _ (heap_set_same _ _ 3 _ _ _ _ (heap_set_same _ _ 2 _ _ _ _ (heap_set_same _ _ 1 _ _ _ _ (heap_set_same _ _ 0 _ _ _ _ H7.out.2.2.2))))
          generalize ((((w7.setCell ⟨w.heap.size, 0, none⟩ (.int .i64 y.rule)).setCell ⟨w.heap.size, 1, none⟩ (.int .i64 at')).setCell ⟨w.heap.size, 2, none⟩ (.int .i64 line)).setCell ⟨w.heap.size, 3, none⟩ (.int .i64 col)).setCell ⟨w.heap.size, 4, none⟩ (.string (buf2.extract 0 long)) = wR at hgR hrR ⊢; have z0 := cell_of _ _ 0 _ _ _ hrR; have z1 := cell_of _ _ 1 _ _ _ hrR; have z2 := cell_of _ _ 2 _ _ _ hrR; have z3 := cell_of _ _ 3 _ _ _ hrR; have z4 := cell_of _ _ 4 _ _ _ hrR; simp only [List.getElem?_toArray, List.getElem?_cons_zero, List.getElem?_cons_succ] at z0 z1 z2 z3 z4
          have hReq : R = (.tok y.rule long, buf2, 0, S2) := by
           have h := HRES.out; rw [if_neg hC, if_neg (by rintro (h9 | h9); exact hs h9.1; omega), if_neg (by rintro (h9 | h9 | h9); exact hs h9.1; omega; omega), if_neg (by omega : ¬ y.rule < 0)] at h; rw [← h, HLO.out]
          refine jump_ret ?_; refine bodyPost_ret (v := .tuple #[.agg #[.int .i64 y.rule, .int .i64 at', .int .i64 line, .int .i64 col, .string (buf2.extract 0 long)], .nilIface]) (by simp [results, Tryz.results25, go_sem, z0, z1, z2, z3, z4]) rfl ?_; rw [hReq]; have hfin := HX.out.1.tok H7.out.2.2.1 H7.out.1 hle H7.out.2.1; have hpab : ∀ x, x = w.heap.size → (Value.slice (some pa) (buf2.size - long) (cap - long)).ownBlock ≠ some x := fun x hx e => by
           have h8 := hfin.2.new x e
           rcases h8 with h8 | h8
           · exact HST.out.own.2 (by rw [← hx]; exact h8)
           · omega
          exact ⟨rfl, _, hfin.1.grown hgR (by omega) (by omega) (hpab _ rfl), (HX.out.2.1.trans hfin.2).grown hgR (Nat.le_refl _)⟩
  · rw [errV_pos hw0] at s4
    have HCELLS : Hid (∀ W, Below w3.heap.size w3 W → W.cell? ⟨bs, 2, none⟩ = some (.int .i64 C) ∧ W.cell? ⟨bs, 3, none⟩ = some (.slice ao buf2.size cap) ∧ W.cell? ⟨bs, 4, none⟩ = some (.iface 51 (.int .i64 why2)) ∧ W.cell? ⟨bs, 5, none⟩ = some .nilIface ∧ W.cell? ⟨w.heap.size + 1, 0, none⟩ = some (.int .i64 y.set) ∧ W.cell? ⟨w.heap.size + 1, 1, none⟩ = some (.int .i64 y.alive) ∧ W.cell? ⟨w.heap.size + 1, 2, none⟩ = some (.int .i64 y.long) ∧ W.cell? ⟨w.heap.size + 1, 3, none⟩ = some (.int .i64 y.rule) ∧ W.frozen? ⟨bs, 5, none⟩ = false ∧ W.frozen? ⟨w.heap.size + 1, 2, none⟩ = false ∧ bs < W.heap.size ∧ w.heap.size + 1 < W.heap.size) := Lib.hid fun W hb =>
     ⟨(below_cell hb ⟨bs, 2, none⟩ lbs3).trans s2, (below_cell hb ⟨bs, 3, none⟩ lbs3).trans s3, (below_cell hb ⟨bs, 4, none⟩ lbs3).trans s4, (below_cell hb ⟨bs, 5, none⟩ lbs3).trans s5, (below_cell hb ⟨w.heap.size + 1, 0, none⟩ lx3).trans x0, (below_cell hb ⟨w.heap.size + 1, 1, none⟩ lx3).trans x1, (below_cell hb ⟨w.heap.size + 1, 2, none⟩ lx3).trans x2, (below_cell hb ⟨w.heap.size + 1, 3, none⟩ lx3).trans x3,
      free_of _ _ 5 _ _ ((hb.block bs lbs3).trans H3.out.1.sc), free_of _ _ 2 _ _ ((hb.block _ lx3).trans H3.out.2.2.2.1), Nat.lt_of_lt_of_le lbs3 hb.size, Nat.lt_of_lt_of_le lx3 hb.size⟩
    have HBw3 : Hid (Below w3.heap.size w3 w3) := Lib.hid (Below.refl _ _); by_cases h13 : why2 = 13
    · have HD := Lib.hid (decide_eq_true h13)
      have H13 := Lib.hid h13; clear h13; go_upto_region 7 with (first | (go_at_call 37; refine (is_num why2 13 _).mono ?_; rintro e w' ⟨rfl, hw⟩; obtain rfl := hw.symm; rw [HD.out]))
      by_cases hC : C ≤ A
      · have hzC : (C : Int) ≤ (A : Int) := by omega
        go_upto_region 17 with (fail)
        have hsE : ScSt B (w3.setCell ⟨bs, 5, none⟩ (.iface 51 (.int .i64 10))) bs bt sb C buf2 why2 10 at' line col S2 (.slice ao buf2.size cap) := by
         have h := H3.out.1.setErr 10; rw [show errV 10 = .iface 51 (.int .i64 10) from rfl] at h; exact h
        have hkE := H3.out.2.1.trans (Keep.set (bs := bs) (sb := sb) (o := 5) (w := w3) (.iface 51 (.int .i64 10))); have hrE := (heap_set w3 ⟨bs, 5, none⟩ (.iface 51 (.int .i64 10)) w.heap.size (by show w.heap.size ≠ bs; omega)).trans H3.out.2.2.1; generalize w3.setCell ⟨bs, 5, none⟩ (.iface 51 (.int .i64 10)) = wE at hsE hkE hrE ⊢; have e5 := cell_of _ _ 5 _ _ _ hsE.sc; simp only [List.getElem?_toArray, List.getElem?_cons_zero, List.getElem?_cons_succ] at e5; rw [show errV 10 = .iface 51 (.int .i64 10) from rfl] at e5; have HE := Lib.hid (And.intro hsE (And.intro hkE hrE))
        have q0 := cell_of _ _ 0 _ _ _ hrE; have q1 := cell_of _ _ 1 _ _ _ hrE; have q2 := cell_of _ _ 2 _ _ _ hrE; have q3 := cell_of _ _ 3 _ _ _ hrE; have q4 := cell_of _ _ 4 _ _ _ hrE; simp only [List.getElem?_toArray, List.getElem?_cons_zero, List.getElem?_cons_succ] at q0 q1 q2 q3 q4; have r0 := free_of _ _ 0 _ _ hrE; have r1 := free_of _ _ 1 _ _ hrE; have r2 := free_of _ _ 2 _ _ hrE; have r3 := free_of _ _ 3 _ _ hrE; have r4 := free_of _ _ 4 _ _ hrE; have lE := lt_of_some hrE; clear hsE hkE hrE; refine wp_region_noPanic ?_
        refine wp_region_sink (fun w' => w'.cell? ⟨bs, 5, none⟩ = some ((.iface 51 (.int .i64 10)))) 6 (by kernel_rfl) e5 (fun hS0 => ?_); refine sink_t 0 hS0 ?_ ?_ (v := ?_); rotate_left
        · intro w9 hS9
          (try dsimp only at hS9); go_simp; (try with_reducible rfl)
        (try simp only [Act.put, lA, lB, lC]); refine sink_t 1 hS0 ?_ ?_ (v := ?_); rotate_left
        · intro w9 hS9
          (try dsimp only at hS9); go_simp; (try with_reducible rfl)
        (try simp only [Act.put, lA, lB, lC]); refine sink_t 2 hS0 ?_ ?_ (v := ?_); rotate_left
        · intro w9 hS9
          (try dsimp only at hS9); go_simp; (try with_reducible rfl)
        (try simp only [Act.put, lA, lB, lC]); refine sink_t 3 hS0 ?_ ?_ (v := ?_); rotate_left
        · intro w9 hS9
          (try dsimp only at hS9); go_simp; (try with_reducible rfl)
        (try simp only [Act.put, lA, lB, lC]); refine sink_t 4 hS0 ?_ ?_ (v := ?_); rotate_left
        · intro w9 hS9
          (try dsimp only at hS9); go_simp; (try with_reducible rfl)
        (try simp only [Act.put, lA, lB, lC]); refine sink_step 5 (by rfl) (by kernel_rfl) (fun K hK => ?_); go_simp; have hgR : wE.grownBy (((((wE.setCell ⟨w.heap.size, 0, none⟩ (.int .i64 0)).setCell ⟨w.heap.size, 1, none⟩ (.int .i64 0)).setCell ⟨w.heap.size, 2, none⟩ (.int .i64 0)).setCell ⟨w.heap.size, 3, none⟩ (.int .i64 0)).setCell ⟨w.heap.size, 4, none⟩ (.string ⟨#[]⟩)).drew (some w.heap.size) :=
         grown_drewN (grown_trans (grown_trans (grown_trans (grown_trans (grown_set _ _ 0 _) (grown_set _ _ 1 _)) (grown_set _ _ 2 _)) (grown_set _ _ 3 _)) (grown_set _ _ 4 _)) 1
        have hrR : (((((wE.setCell ⟨w.heap.size, 0, none⟩ (.int .i64 0)).setCell ⟨w.heap.size, 1, none⟩ (.int .i64 0)).setCell ⟨w.heap.size, 2, none⟩ (.int .i64 0)).setCell ⟨w.heap.size, 3, none⟩ (.int .i64 0)).setCell ⟨w.heap.size, 4, none⟩ (.string ⟨#[]⟩)).drew.heap[w.heap.size]? = some (.cells #[.int .i64 0, .int .i64 0, .int .i64 0, .int .i64 0, .string ⟨#[]⟩] 28 (0, 0)) :=
         heap_set_same _ _ 4 _ _ _ _ (heap_set_same _ _ 3 _ _ _ _ (heap_set_same _ _ 2 _ _ _ _ (heap_set_same _ _ 1 _ _ _ _ (heap_set_same _ _ 0 _ _ _ _ HE.out.2.2))))
        generalize (((((wE.setCell ⟨w.heap.size, 0, none⟩ (.int .i64 0)).setCell ⟨w.heap.size, 1, none⟩ (.int .i64 0)).setCell ⟨w.heap.size, 2, none⟩ (.int .i64 0)).setCell ⟨w.heap.size, 3, none⟩ (.int .i64 0)).setCell ⟨w.heap.size, 4, none⟩ (.string ⟨#[]⟩)).drew = wR at hgR hrR ⊢; have hv5 : wR.cell? ⟨bs, 5, none⟩ = some ((.iface 51 (.int .i64 10))) := (World.cell?_of_block (hgR.block bs (by have := HE.out.1.lt; omega) (fun e => by injection e with e; omega))).trans e5; have HGR := Lib.hid (And.intro hgR hrR); refine hK.out _ _ (fun _ => hv5) ?_
        clear hK K hgR hrR q0 q1 q2 q3 q4 r0 r1 r2 r3 r4; (try simp only [Act.put, lA, lB, lC]); refine sink_step 6 (by rfl) (by kernel_rfl) (fun K hK => ?_); go_simp; refine hK.out _ _ (fun h => absurd rfl h) ?_; clear hK K; (try simp only [Act.put, lA, lB, lC]); refine sink_done (by kernel_rfl) ?_; refine NoPanic.normal ?_; go_wp2_with (fail); have z0 := cell_of _ _ 0 _ _ _ HGR.out.2; have z1 := cell_of _ _ 1 _ _ _ HGR.out.2; have z2 := cell_of _ _ 2 _ _ _ HGR.out.2; have z3 := cell_of _ _ 3 _ _ _ HGR.out.2; have z4 := cell_of _ _ 4 _ _ _ HGR.out.2
        simp only [List.getElem?_toArray, List.getElem?_cons_zero, List.getElem?_cons_succ] at z0 z1 z2 z3 z4; have hReq : R = (.err 10, buf2, why2, S2) := by
         have h := HRES.out; rw [if_pos hC] at h; exact h.symm
        refine jump_ret ?_; refine bodyPost_ret (v := .tuple #[.agg #[.int .i64 0, .int .i64 0, .int .i64 0, .int .i64 0, .string ⟨#[]⟩], (.iface 51 (.int .i64 10))]) (by simp [results, Tryz.results25, go_sem, z0, z1, z2, z3, z4]) rfl ?_; rw [hReq]; refine ⟨by rw [show errV 10 = .iface 51 (.int .i64 10) from rfl], .slice ao buf2.size cap, HE.out.1.grown HGR.out.1 (by omega) (by omega) HST.out.own.2, HE.out.2.1.grown HGR.out.1 (Nat.le_refl _)⟩
      · have hzC : (A : Int) < (C : Int) := by omega
        have hzC2 : ¬ (C : Int) ≤ (A : Int) := by omega
        by_cases hs : A = buf2.size
        · have hzs : ((A : Int) == (buf2.size : Int)) = true := by simp; omega
          by_cases hz : buf2.size = 0
          · have hz0 : ((buf2.size : Int) == 0) = true := by rw [hz]; rfl
            have HZ := Lib.hid hz; clear hz; by_cases hr : y.rule < 0
            · go_upto_region 17 with (fail)
              have hsE : ScSt B (w3.setCell ⟨bs, 5, none⟩ (.iface 51 (.int .i64 why2))) bs bt sb C buf2 why2 why2 at' line col S2 (.slice ao buf2.size cap) := by
               have h := H3.out.1.setErr why2; rw [errV_pos hw0] at h; exact h
              have hkE := H3.out.2.1.trans (Keep.set (bs := bs) (sb := sb) (o := 5) (w := w3) (.iface 51 (.int .i64 why2))); have hrE := (heap_set w3 ⟨bs, 5, none⟩ (.iface 51 (.int .i64 why2)) w.heap.size (by show w.heap.size ≠ bs; omega)).trans H3.out.2.2.1; generalize w3.setCell ⟨bs, 5, none⟩ (.iface 51 (.int .i64 why2)) = wE at hsE hkE hrE ⊢; have e5 := cell_of _ _ 5 _ _ _ hsE.sc; simp only [List.getElem?_toArray, List.getElem?_cons_zero, List.getElem?_cons_succ] at e5; rw [errV_pos hw0] at e5; have HE := Lib.hid (And.intro hsE (And.intro hkE hrE)); have q0 := cell_of _ _ 0 _ _ _ hrE
              have q1 := cell_of _ _ 1 _ _ _ hrE; have q2 := cell_of _ _ 2 _ _ _ hrE; have q3 := cell_of _ _ 3 _ _ _ hrE; have q4 := cell_of _ _ 4 _ _ _ hrE; simp only [List.getElem?_toArray, List.getElem?_cons_zero, List.getElem?_cons_succ] at q0 q1 q2 q3 q4; have r0 := free_of _ _ 0 _ _ hrE; have r1 := free_of _ _ 1 _ _ hrE; have r2 := free_of _ _ 2 _ _ hrE; have r3 := free_of _ _ 3 _ _ hrE; have r4 := free_of _ _ 4 _ _ hrE; have lE := lt_of_some hrE; clear hsE hkE hrE; refine wp_region_noPanic ?_
              refine wp_region_sink (fun w' => w'.cell? ⟨bs, 5, none⟩ = some ((.iface 51 (.int .i64 why2)))) 6 (by kernel_rfl) e5 (fun hS0 => ?_); refine sink_t 0 hS0 ?_ ?_ (v := ?_); rotate_left
              · intro w9 hS9
                (try dsimp only at hS9); go_simp; (try with_reducible rfl)
              (try simp only [Act.put, lA, lB, lC]); refine sink_t 1 hS0 ?_ ?_ (v := ?_); rotate_left
              · intro w9 hS9
                (try dsimp only at hS9); go_simp; (try with_reducible rfl)
              (try simp only [Act.put, lA, lB, lC]); refine sink_t 2 hS0 ?_ ?_ (v := ?_); rotate_left
              · intro w9 hS9
                (try dsimp only at hS9); go_simp; (try with_reducible rfl)
              (try simp only [Act.put, lA, lB, lC]); refine sink_t 3 hS0 ?_ ?_ (v := ?_); rotate_left
              · intro w9 hS9
                (try dsimp only at hS9); go_simp; (try with_reducible rfl)
              (try simp only [Act.put, lA, lB, lC]); refine sink_t 4 hS0 ?_ ?_ (v := ?_); rotate_left
              · intro w9 hS9
                (try dsimp only at hS9); go_simp; (try with_reducible rfl)
              (try simp only [Act.put, lA, lB, lC]); refine sink_step 5 (by rfl) (by kernel_rfl) (fun K hK => ?_); go_simp; have hgR : wE.grownBy (((((wE.setCell ⟨w.heap.size, 0, none⟩ (.int .i64 0)).setCell ⟨w.heap.size, 1, none⟩ (.int .i64 0)).setCell ⟨w.heap.size, 2, none⟩ (.int .i64 0)).setCell ⟨w.heap.size, 3, none⟩ (.int .i64 0)).setCell ⟨w.heap.size, 4, none⟩ (.string ⟨#[]⟩)).drew (some w.heap.size) :=
               grown_drewN (grown_trans (grown_trans (grown_trans (grown_trans (grown_set _ _ 0 _) (grown_set _ _ 1 _)) (grown_set _ _ 2 _)) (grown_set _ _ 3 _)) (grown_set _ _ 4 _)) 1
              have hrR : (((((wE.setCell ⟨w.heap.size, 0, none⟩ (.int .i64 0)).setCell ⟨w.heap.size, 1, none⟩ (.int .i64 0)).setCell ⟨w.heap.size, 2, none⟩ (.int .i64 0)).setCell ⟨w.heap.size, 3, none⟩ (.int .i64 0)).setCell ⟨w.heap.size, 4, none⟩ (.string ⟨#[]⟩)).drew.heap[w.heap.size]? = some (.cells #[.int .i64 0, .int .i64 0, .int .i64 0, .int .i64 0, .string ⟨#[]⟩] 28 (0, 0)) :=
               heap_set_same _ _ 4 _ _ _ _ (heap_set_same _ _ 3 _ _ _ _ (heap_set_same _ _ 2 _ _ _ _ (heap_set_same _ _ 1 _ _ _ _ (heap_set_same _ _ 0 _ _ _ _ HE.out.2.2))))
              generalize (((((wE.setCell ⟨w.heap.size, 0, none⟩ (.int .i64 0)).setCell ⟨w.heap.size, 1, none⟩ (.int .i64 0)).setCell ⟨w.heap.size, 2, none⟩ (.int .i64 0)).setCell ⟨w.heap.size, 3, none⟩ (.int .i64 0)).setCell ⟨w.heap.size, 4, none⟩ (.string ⟨#[]⟩)).drew = wR at hgR hrR ⊢; have hv5 : wR.cell? ⟨bs, 5, none⟩ = some ((.iface 51 (.int .i64 why2))) := (World.cell?_of_block (hgR.block bs (by have := HE.out.1.lt; omega) (fun e => by injection e with e; omega))).trans e5; have HGR := Lib.hid (And.intro hgR hrR); refine hK.out _ _ (fun _ => hv5) ?_
              clear hK K hgR hrR q0 q1 q2 q3 q4 r0 r1 r2 r3 r4; (try simp only [Act.put, lA, lB, lC]); refine sink_step 6 (by rfl) (by kernel_rfl) (fun K hK => ?_); go_simp; refine hK.out _ _ (fun h => absurd rfl h) ?_; clear hK K; (try simp only [Act.put, lA, lB, lC]); refine sink_done (by kernel_rfl) ?_; refine NoPanic.normal ?_; go_wp2_with (fail); have z0 := cell_of _ _ 0 _ _ _ HGR.out.2; have z1 := cell_of _ _ 1 _ _ _ HGR.out.2; have z2 := cell_of _ _ 2 _ _ _ HGR.out.2; have z3 := cell_of _ _ 3 _ _ _ HGR.out.2; have z4 := cell_of _ _ 4 _ _ _ HGR.out.2
              simp only [List.getElem?_toArray, List.getElem?_cons_zero, List.getElem?_cons_succ] at z0 z1 z2 z3 z4; have hReq : R = (.err why2, buf2, why2, S2) := by
               have h := HRES.out; rw [if_neg hC, if_neg (by rintro (h9 | h9); exact hw0 h9.2; exact hw0 h9.2.1), if_pos (.inr (.inr HZ.out))] at h; exact h.symm
              refine jump_ret ?_; refine bodyPost_ret (v := .tuple #[.agg #[.int .i64 0, .int .i64 0, .int .i64 0, .int .i64 0, .string ⟨#[]⟩], (.iface 51 (.int .i64 why2))]) (by simp [results, Tryz.results25, go_sem, z0, z1, z2, z3, z4]) rfl ?_; rw [hReq]; refine ⟨by rw [errV_pos hw0], .slice ao buf2.size cap, HE.out.1.grown HGR.out.1 (by omega) (by omega) HST.out.own.2, HE.out.2.1.grown HGR.out.1 (Nat.le_refl _)⟩
            · go_upto_region 17 with (fail)
              have hsE : ScSt B (w3.setCell ⟨bs, 5, none⟩ (.iface 51 (.int .i64 why2))) bs bt sb C buf2 why2 why2 at' line col S2 (.slice ao buf2.size cap) := by
               have h := H3.out.1.setErr why2; rw [errV_pos hw0] at h; exact h
              have hkE := H3.out.2.1.trans (Keep.set (bs := bs) (sb := sb) (o := 5) (w := w3) (.iface 51 (.int .i64 why2))); have hrE := (heap_set w3 ⟨bs, 5, none⟩ (.iface 51 (.int .i64 why2)) w.heap.size (by show w.heap.size ≠ bs; omega)).trans H3.out.2.2.1; generalize w3.setCell ⟨bs, 5, none⟩ (.iface 51 (.int .i64 why2)) = wE at hsE hkE hrE ⊢; have e5 := cell_of _ _ 5 _ _ _ hsE.sc; simp only [List.getElem?_toArray, List.getElem?_cons_zero, List.getElem?_cons_succ] at e5; rw [errV_pos hw0] at e5; have HE := Lib.hid (And.intro hsE (And.intro hkE hrE)); have q0 := cell_of _ _ 0 _ _ _ hrE
              have q1 := cell_of _ _ 1 _ _ _ hrE; have q2 := cell_of _ _ 2 _ _ _ hrE; have q3 := cell_of _ _ 3 _ _ _ hrE; have q4 := cell_of _ _ 4 _ _ _ hrE; simp only [List.getElem?_toArray, List.getElem?_cons_zero, List.getElem?_cons_succ] at q0 q1 q2 q3 q4; have r0 := free_of _ _ 0 _ _ hrE; have r1 := free_of _ _ 1 _ _ hrE; have r2 := free_of _ _ 2 _ _ hrE; have r3 := free_of _ _ 3 _ _ hrE; have r4 := free_of _ _ 4 _ _ hrE; have lE := lt_of_some hrE; clear hsE hkE hrE; refine wp_region_noPanic ?_
              refine wp_region_sink (fun w' => w'.cell? ⟨bs, 5, none⟩ = some ((.iface 51 (.int .i64 why2)))) 6 (by kernel_rfl) e5 (fun hS0 => ?_); refine sink_t 0 hS0 ?_ ?_ (v := ?_); rotate_left
              · intro w9 hS9
                (try dsimp only at hS9); go_simp; (try with_reducible rfl)
              (try simp only [Act.put, lA, lB, lC]); refine sink_t 1 hS0 ?_ ?_ (v := ?_); rotate_left
              · intro w9 hS9
                (try dsimp only at hS9); go_simp; (try with_reducible rfl)
              (try simp only [Act.put, lA, lB, lC]); refine sink_t 2 hS0 ?_ ?_ (v := ?_); rotate_left
              · intro w9 hS9
                (try dsimp only at hS9); go_simp; (try with_reducible rfl)
              (try simp only [Act.put, lA, lB, lC]); refine sink_t 3 hS0 ?_ ?_ (v := ?_); rotate_left
              · intro w9 hS9
                (try dsimp only at hS9); go_simp; (try with_reducible rfl)
              (try simp only [Act.put, lA, lB, lC]); refine sink_t 4 hS0 ?_ ?_ (v := ?_); rotate_left
              · intro w9 hS9
                (try dsimp only at hS9); go_simp; (try with_reducible rfl)
              (try simp only [Act.put, lA, lB, lC]); refine sink_step 5 (by rfl) (by kernel_rfl) (fun K hK => ?_); go_simp; have hgR : wE.grownBy (((((wE.setCell ⟨w.heap.size, 0, none⟩ (.int .i64 0)).setCell ⟨w.heap.size, 1, none⟩ (.int .i64 0)).setCell ⟨w.heap.size, 2, none⟩ (.int .i64 0)).setCell ⟨w.heap.size, 3, none⟩ (.int .i64 0)).setCell ⟨w.heap.size, 4, none⟩ (.string ⟨#[]⟩)).drew (some w.heap.size) :=
               grown_drewN (grown_trans (grown_trans (grown_trans (grown_trans (grown_set _ _ 0 _) (grown_set _ _ 1 _)) (grown_set _ _ 2 _)) (grown_set _ _ 3 _)) (grown_set _ _ 4 _)) 1
              have hrR : (((((wE.setCell ⟨w.heap.size, 0, none⟩ (.int .i64 0)).setCell ⟨w.heap.size, 1, none⟩ (.int .i64 0)).setCell ⟨w.heap.size, 2, none⟩ (.int .i64 0)).setCell ⟨w.heap.size, 3, none⟩ (.int .i64 0)).setCell ⟨w.heap.size, 4, none⟩ (.string ⟨#[]⟩)).drew.heap[w.heap.size]? = some (.cells #[.int .i64 0, .int .i64 0, .int .i64 0, .int .i64 0, .string ⟨#[]⟩] 28 (0, 0)) :=
               heap_set_same _ _ 4 _ _ _ _ (heap_set_same _ _ 3 _ _ _ _ (heap_set_same _ _ 2 _ _ _ _ (heap_set_same _ _ 1 _ _ _ _ (heap_set_same _ _ 0 _ _ _ _ HE.out.2.2))))
              generalize (((((wE.setCell ⟨w.heap.size, 0, none⟩ (.int .i64 0)).setCell ⟨w.heap.size, 1, none⟩ (.int .i64 0)).setCell ⟨w.heap.size, 2, none⟩ (.int .i64 0)).setCell ⟨w.heap.size, 3, none⟩ (.int .i64 0)).setCell ⟨w.heap.size, 4, none⟩ (.string ⟨#[]⟩)).drew = wR at hgR hrR ⊢; have hv5 : wR.cell? ⟨bs, 5, none⟩ = some ((.iface 51 (.int .i64 why2))) := (World.cell?_of_block (hgR.block bs (by have := HE.out.1.lt; omega) (fun e => by injection e with e; omega))).trans e5; have HGR := Lib.hid (And.intro hgR hrR); refine hK.out _ _ (fun _ => hv5) ?_
              clear hK K hgR hrR q0 q1 q2 q3 q4 r0 r1 r2 r3 r4; (try simp only [Act.put, lA, lB, lC]); refine sink_step 6 (by rfl) (by kernel_rfl) (fun K hK => ?_); go_simp; refine hK.out _ _ (fun h => absurd rfl h) ?_; clear hK K; (try simp only [Act.put, lA, lB, lC]); refine sink_done (by kernel_rfl) ?_; refine NoPanic.normal ?_; go_wp2_with (fail); have z0 := cell_of _ _ 0 _ _ _ HGR.out.2; have z1 := cell_of _ _ 1 _ _ _ HGR.out.2; have z2 := cell_of _ _ 2 _ _ _ HGR.out.2; have z3 := cell_of _ _ 3 _ _ _ HGR.out.2; have z4 := cell_of _ _ 4 _ _ _ HGR.out.2
              simp only [List.getElem?_toArray, List.getElem?_cons_zero, List.getElem?_cons_succ] at z0 z1 z2 z3 z4; have hReq : R = (.err why2, buf2, why2, S2) := by
               have h := HRES.out; rw [if_neg hC, if_neg (by rintro (h9 | h9); exact hw0 h9.2; exact hw0 h9.2.1), if_pos (.inr (.inr HZ.out))] at h; exact h.symm
              refine jump_ret ?_; refine bodyPost_ret (v := .tuple #[.agg #[.int .i64 0, .int .i64 0, .int .i64 0, .int .i64 0, .string ⟨#[]⟩], (.iface 51 (.int .i64 why2))]) (by simp [results, Tryz.results25, go_sem, z0, z1, z2, z3, z4]) rfl ?_; rw [hReq]; refine ⟨by rw [errV_pos hw0], .slice ao buf2.size cap, HE.out.1.grown HGR.out.1 (by omega) (by omega) HST.out.own.2, HE.out.2.1.grown HGR.out.1 (Nat.le_refl _)⟩
          · have hszp : 0 < buf2.size := by omega
            have hz0 : ((buf2.size : Int) == 0) = false := by rw [beq_eq_false_iff_ne]; omega
            by_cases hr : y.rule < 0
            · go_upto_region 16 with (fail)
              obtain ⟨g, off, rfl⟩ : ∃ g off, ao = some (⟨g, off, none⟩ : Addr) := by
               rcases H3.out.1.buf with ⟨e, h0⟩ | ⟨g, off, c', cells, e, _⟩
               · omega
               · cases e; exact ⟨g, off, rfl⟩
              have hgb : g ≠ bs := (H3.out.1.own g rfl).2; obtain ⟨kk, hkk⟩ : ∃ kk, kk = (Utf8.decode buf2 0).2 := ⟨_, rfl⟩; have hkl : 1 ≤ kk ∧ kk ≤ buf2.size := by have h9 := decode_adv buf2 0 hszp; omega
              have hbi : ∀ i, i < buf2.size → w3.cell? ⟨g, off + i, none⟩ = some (.int .u8 (byt buf2 i)) := by
               rcases H3.out.1.buf.is with ⟨e, h0⟩ | ⟨g', off', c', e, h1, h2, h3⟩
               · cases e
               · cases e; exact h3
              have hdec := decode_buf buf2 0 g off cap w3 hszp H3.out.2.2.2.2.2 hbi; simp only [Nat.add_zero, Nat.sub_zero] at hdec; rw [← hkk] at hdec; have HDEC := Lib.hid hdec; have HKK := Lib.hid hkk; clear hdec hkk hbi; go_upto_region 20 with (first | (go_at_call 40; refine (HDEC.out).mono ?_; rintro e wd ⟨rfl, hbd⟩; have HBwd : Hid (Below w3.heap.size w3 wd) := Lib.hid (below_then HBw3.out hbd HBw3.out.size); obtain ⟨d2, d3, d4, d5, dx0, dx1, dx2, dx3, df5, dfx, dlb, dlx⟩ := HCELLS.out wd HBwd.out; clear hbd))
              have h3 := HBwd.out; have Hd0 := And.intro (H3.out.1.below h3) (And.intro (H3.out.2.1.trans (Keep.of_below h3)) (And.intro ((h3.block w.heap.size (lt_of_some H3.out.2.2.1)).trans H3.out.2.2.1) (And.intro ((h3.block _ (lt_of_some H3.out.2.2.2.1)).trans H3.out.2.2.2.1 : RunAt wd (w.heap.size + 1) y) (And.intro (H3.out.2.2.2.2.1.below (h3.mono (by have := H3.out.1.lt; omega) : Below BT w3 wd)) (tabs_below (B := BT) H3.out.2.2.2.2.2 (h3.mono (by have := H3.out.1.lt; omega)) hG : Tabs wd))))); have Hd := Lib.hid Hd0; clear h3 Hd0
              have hxr : RunAt (wd.setCell ⟨w.heap.size + 1, 2, none⟩ (.int .i64 kk)) (w.heap.size + 1) ⟨y.set, y.alive, kk, y.rule⟩ := heap_set_same _ _ 2 _ _ _ _ Hd.out.2.2.2.1; have hgx : wd.grownBy (wd.setCell ⟨w.heap.size + 1, 2, none⟩ (.int .i64 kk)) (some (w.heap.size + 1)) := grown_set _ _ 2 _; have hxs := Hd.out.1.grown hgx (by omega) (by omega) HST.out.own.1; have hxk := Hd.out.2.1.grown hgx (by omega); have hxq := (hgx.block w.heap.size (lt_of_some Hd.out.2.2.1) (fun e => by injection e with e; omega)).trans Hd.out.2.2.1
              generalize wd.setCell ⟨w.heap.size + 1, 2, none⟩ (.int .i64 kk) = wX at hxr hxs hxk hxq ⊢; have HX := Lib.hid (And.intro hxs (And.intro hxk (And.intro hxq hxr))); clear hxs hxk hxq hgx; obtain ⟨long, hlo⟩ : ∃ long, long = kk := ⟨_, rfl⟩; rw [← hlo] at HX hxr; have hle : long ≤ buf2.size := by omega
              have HLO := Lib.hid (hlo.trans HKK.out); clear hlo; have hbi : buf2.size ≤ cap ∧ g < wX.heap.size ∧ ∀ i, i < buf2.size → wX.cell? ⟨g, off + i, none⟩ = some (.int .u8 (byt buf2 i)) := by
               rcases HX.out.1.buf.is with ⟨e, h0⟩ | ⟨g', off', c', e, h1, h2, h3⟩
               · cases e
               · cases e; exact ⟨h1, h2, h3⟩
              have htok := token_any buf2 hsz6 ⟨y.set, y.alive, long, y.rule⟩ wX bs bt g off cap _ _ _ C at' line col HX.out.1.sc hbi.1 hbi.2.1 hgb hbi.2.2 hle HNUM.out.1 HNUM.out.2.1 HNUM.out.2.2.1; have HTOK := Lib.hid htok; obtain ⟨c0, c1, c2, c3⟩ := hxr.cells; have lxX := lt_of_some hxr; have lqX := lt_of_some HX.out.2.2.1; clear htok hbi hxr
              go_wp2_with (first | (go_at_call 41; refine (HTOK.out).mono ?_; rintro e w7 ⟨rfl, hg7, pa, hpa, hsc7⟩; have hr7 := (hg7.block w.heap.size lqX (fun e => by injection e with e; omega)).trans HX.out.2.2.1; have q0 := cell_of _ _ 0 _ _ _ hr7; have q1 := cell_of _ _ 1 _ _ _ hr7; have q2 := cell_of _ _ 2 _ _ _ hr7; have q3 := cell_of _ _ 3 _ _ _ hr7; have q4 := cell_of _ _ 4 _ _ _ hr7; simp only [List.getElem?_toArray, List.getElem?_cons_zero, List.getElem?_cons_succ] at q0 q1 q2 q3 q4; have r0 := free_of _ _ 0 _ _ hr7; have r1 := free_of _ _ 1 _ _ hr7; have r2 := free_of _ _ 2 _ _ hr7; have r3 := free_of _ _ 3 _ _ hr7; have r4 := free_of _ _ 4 _ _ hr7; have l7 := lt_of_some hr7; have H7 := Lib.hid (And.intro hg7 (And.intro hpa (And.intro hsc7 hr7))); clear hg7 hpa hsc7 hr7))
              have hgR : w7.grownBy (((((w7.setCell ⟨w.heap.size, 0, none⟩ (.int .i64 y.rule)).setCell ⟨w.heap.size, 1, none⟩ (.int .i64 at')).setCell ⟨w.heap.size, 2, none⟩ (.int .i64 line)).setCell ⟨w.heap.size, 3, none⟩ (.int .i64 col)).setCell ⟨w.heap.size, 4, none⟩ (.string (buf2.extract 0 long))) (some w.heap.size) :=
               grown_trans (grown_trans (grown_trans (grown_trans (grown_set _ _ 0 _) (grown_set _ _ 1 _)) (grown_set _ _ 2 _)) (grown_set _ _ 3 _)) (grown_set _ _ 4 _)
              have hrR : (((((w7.setCell ⟨w.heap.size, 0, none⟩ (.int .i64 y.rule)).setCell ⟨w.heap.size, 1, none⟩ (.int .i64 at')).setCell ⟨w.heap.size, 2, none⟩ (.int .i64 line)).setCell ⟨w.heap.size, 3, none⟩ (.int .i64 col)).setCell ⟨w.heap.size, 4, none⟩ (.string (buf2.extract 0 long))).heap[w.heap.size]? = some (.cells #[.int .i64 y.rule, .int .i64 at', .int .i64 line, .int .i64 col, .string (buf2.extract 0 long)] 28 (0, 0)) :=
               heap_set_same _ _ 4 _ _ _ _ (heap_set_same _ _ 3 _ _ _ _ (heap_set_same _ _ 2 _ _ _ _ (heap_set_same _ _ 1 _ _ _ _ (heap_set_same _ _ 0 _ _ _ _ H7.out.2.2.2))))
              generalize ((((w7.setCell ⟨w.heap.size, 0, none⟩ (.int .i64 y.rule)).setCell ⟨w.heap.size, 1, none⟩ (.int .i64 at')).setCell ⟨w.heap.size, 2, none⟩ (.int .i64 line)).setCell ⟨w.heap.size, 3, none⟩ (.int .i64 col)).setCell ⟨w.heap.size, 4, none⟩ (.string (buf2.extract 0 long)) = wR at hgR hrR ⊢; have z0 := cell_of _ _ 0 _ _ _ hrR; have z1 := cell_of _ _ 1 _ _ _ hrR; have z2 := cell_of _ _ 2 _ _ _ hrR; have z3 := cell_of _ _ 3 _ _ _ hrR; have z4 := cell_of _ _ 4 _ _ _ hrR; simp only [List.getElem?_toArray, List.getElem?_cons_zero, List.getElem?_cons_succ] at z0 z1 z2 z3 z4
              have hReq : R = (.tok y.rule long, buf2, why2, S2) := by
               have h := HRES.out; rw [if_neg hC, if_neg (by rintro (h9 | h9); exact hw0 h9.2; exact hw0 h9.2.1), if_neg (by rintro (h9 | h9 | h9); exact h9.2 H13.out; exact h9.2.1 H13.out; omega), if_pos hr] at h; rw [← h, HLO.out]
              refine jump_ret ?_; refine bodyPost_ret (v := .tuple #[.agg #[.int .i64 y.rule, .int .i64 at', .int .i64 line, .int .i64 col, .string (buf2.extract 0 long)], .nilIface]) (by simp [results, Tryz.results25, go_sem, z0, z1, z2, z3, z4]) rfl ?_; rw [hReq]; have hfin := HX.out.1.tok H7.out.2.2.1 H7.out.1 hle H7.out.2.1; have hpab : ∀ x, x = w.heap.size → (Value.slice (some pa) (buf2.size - long) (cap - long)).ownBlock ≠ some x := fun x hx e => by
               have h8 := hfin.2.new x e
               rcases h8 with h8 | h8
               · exact HST.out.own.2 (by rw [← hx]; exact h8)
               · omega
              exact ⟨rfl, _, hfin.1.grown hgR (by omega) (by omega) (hpab _ rfl), (HX.out.2.1.trans hfin.2).grown hgR (Nat.le_refl _)⟩
            · go_upto_region 16 with (fail)
              obtain ⟨g, off, rfl⟩ : ∃ g off, ao = some (⟨g, off, none⟩ : Addr) := by
               rcases H3.out.1.buf with ⟨e, h0⟩ | ⟨g, off, c', cells, e, _⟩
               · omega
               · cases e; exact ⟨g, off, rfl⟩
              have hgb : g ≠ bs := (H3.out.1.own g rfl).2; go_upto_region 20 with (fail)
              obtain ⟨wX, hwX⟩ : ∃ wX, wX = w3 := ⟨_, rfl⟩; obtain ⟨long, hlo⟩ : ∃ long, long = y.long := ⟨_, rfl⟩; have hxr : RunAt wX (w.heap.size + 1) ⟨y.set, y.alive, long, y.rule⟩ := by rw [hwX, hlo]; exact H3.out.2.2.2.1
              have HX : Hid (ScSt B wX bs bt sb C buf2 why2 0 at' line col S2 (.slice (some ⟨g, off, none⟩) buf2.size cap) ∧ Keep bs sb bv (.slice (some ⟨g, off, none⟩) buf2.size cap) w wX ∧ wX.heap[w.heap.size]? = some (.cells #[.int .i64 0, .int .i64 0, .int .i64 0, .int .i64 0, .string ⟨#[]⟩] 28 (0, 0)) ∧ RunAt wX (w.heap.size + 1) ⟨y.set, y.alive, long, y.rule⟩) := Lib.hid ⟨by rw [hwX]; exact H3.out.1, by rw [hwX]; exact H3.out.2.1, by rw [hwX]; exact H3.out.2.2.1, hxr⟩; rw [← hwX]; have hle : long ≤ buf2.size := by have h8 := HYY.out.2.2; have h9 := HYY.out.1.1; omega
              have HLO := Lib.hid hlo; clear hlo hwX; have hbi : buf2.size ≤ cap ∧ g < wX.heap.size ∧ ∀ i, i < buf2.size → wX.cell? ⟨g, off + i, none⟩ = some (.int .u8 (byt buf2 i)) := by
               rcases HX.out.1.buf.is with ⟨e, h0⟩ | ⟨g', off', c', e, h1, h2, h3⟩
               · cases e
               · cases e; exact ⟨h1, h2, h3⟩
              have htok := token_any buf2 hsz6 ⟨y.set, y.alive, long, y.rule⟩ wX bs bt g off cap _ _ _ C at' line col HX.out.1.sc hbi.1 hbi.2.1 hgb hbi.2.2 hle HNUM.out.1 HNUM.out.2.1 HNUM.out.2.2.1; have HTOK := Lib.hid htok; obtain ⟨c0, c1, c2, c3⟩ := hxr.cells; have lxX := lt_of_some hxr; have lqX := lt_of_some HX.out.2.2.1; clear htok hbi hxr
              go_wp2_with (first | (go_at_call 41; refine (HTOK.out).mono ?_; rintro e w7 ⟨rfl, hg7, pa, hpa, hsc7⟩; have hr7 := (hg7.block w.heap.size lqX (fun e => by injection e with e; omega)).trans HX.out.2.2.1; have q0 := cell_of _ _ 0 _ _ _ hr7; have q1 := cell_of _ _ 1 _ _ _ hr7; have q2 := cell_of _ _ 2 _ _ _ hr7; have q3 := cell_of _ _ 3 _ _ _ hr7; have q4 := cell_of _ _ 4 _ _ _ hr7; simp only [List.getElem?_toArray, List.getElem?_cons_zero, List.getElem?_cons_succ] at q0 q1 q2 q3 q4; have r0 := free_of _ _ 0 _ _ hr7; have r1 := free_of _ _ 1 _ _ hr7; have r2 := free_of _ _ 2 _ _ hr7; have r3 := free_of _ _ 3 _ _ hr7; have r4 := free_of _ _ 4 _ _ hr7; have l7 := lt_of_some hr7; have H7 := Lib.hid (And.intro hg7 (And.intro hpa (And.intro hsc7 hr7))); clear hg7 hpa hsc7 hr7))
              have hgR : w7.grownBy (((((w7.setCell ⟨w.heap.size, 0, none⟩ (.int .i64 y.rule)).setCell ⟨w.heap.size, 1, none⟩ (.int .i64 at')).setCell ⟨w.heap.size, 2, none⟩ (.int .i64 line)).setCell ⟨w.heap.size, 3, none⟩ (.int .i64 col)).setCell ⟨w.heap.size, 4, none⟩ (.string (buf2.extract 0 long))) (some w.heap.size) :=
               grown_trans (grown_trans (grown_trans (grown_trans (grown_set _ _ 0 _) (grown_set _ _ 1 _)) (grown_set _ _ 2 _)) (grown_set _ _ 3 _)) (grown_set _ _ 4 _)
              have hrR : (((((w7.setCell ⟨w.heap.size, 0, none⟩ (.int .i64 y.rule)).setCell ⟨w.heap.size, 1, none⟩ (.int .i64 at')).setCell ⟨w.heap.size, 2, none⟩ (.int .i64 line)).setCell ⟨w.heap.size, 3, none⟩ (.int .i64 col)).setCell ⟨w.heap.size, 4, none⟩ (.string (buf2.extract 0 long))).heap[w.heap.size]? = some (.cells #[.int .i64 y.rule, .int .i64 at', .int .i64 line, .int .i64 col, .string (buf2.extract 0 long)] 28 (0, 0)) :=
               heap_set_same _ _ 4 _ _ _ _ (heap_set_same _ _ 3 _ _ _ _ (heap_set_same _ _ 2 _ _ _ _ (heap_set_same _ _ 1 _ _ _ _ (heap_set_same _ _ 0 _ _ _ _ H7.out.2.2.2))))
              generalize ((((w7.setCell ⟨w.heap.size, 0, none⟩ (.int .i64 y.rule)).setCell ⟨w.heap.size, 1, none⟩ (.int .i64 at')).setCell ⟨w.heap.size, 2, none⟩ (.int .i64 line)).setCell ⟨w.heap.size, 3, none⟩ (.int .i64 col)).setCell ⟨w.heap.size, 4, none⟩ (.string (buf2.extract 0 long)) = wR at hgR hrR ⊢; have z0 := cell_of _ _ 0 _ _ _ hrR; have z1 := cell_of _ _ 1 _ _ _ hrR; have z2 := cell_of _ _ 2 _ _ _ hrR; have z3 := cell_of _ _ 3 _ _ _ hrR; have z4 := cell_of _ _ 4 _ _ _ hrR; simp only [List.getElem?_toArray, List.getElem?_cons_zero, List.getElem?_cons_succ] at z0 z1 z2 z3 z4
              have hReq : R = (.tok y.rule long, buf2, why2, S2) := by
               have h := HRES.out; rw [if_neg hC, if_neg (by rintro (h9 | h9); exact hw0 h9.2; exact hw0 h9.2.1), if_neg (by rintro (h9 | h9 | h9); exact h9.2 H13.out; exact h9.2.1 H13.out; omega), if_neg (by omega : ¬ y.rule < 0)] at h; rw [← h, HLO.out]
              refine jump_ret ?_; refine bodyPost_ret (v := .tuple #[.agg #[.int .i64 y.rule, .int .i64 at', .int .i64 line, .int .i64 col, .string (buf2.extract 0 long)], .nilIface]) (by simp [results, Tryz.results25, go_sem, z0, z1, z2, z3, z4]) rfl ?_; rw [hReq]; have hfin := HX.out.1.tok H7.out.2.2.1 H7.out.1 hle H7.out.2.1; have hpab : ∀ x, x = w.heap.size → (Value.slice (some pa) (buf2.size - long) (cap - long)).ownBlock ≠ some x := fun x hx e => by
               have h8 := hfin.2.new x e
               rcases h8 with h8 | h8
               · exact HST.out.own.2 (by rw [← hx]; exact h8)
               · omega
              exact ⟨rfl, _, hfin.1.grown hgR (by omega) (by omega) (hpab _ rfl), (HX.out.2.1.trans hfin.2).grown hgR (Nat.le_refl _)⟩
        · have hzs : ((A : Int) == (buf2.size : Int)) = false := by simp; omega
          have hszp : 0 < buf2.size := by have h1 := HAL.out; have h2 := HA.out; omega
          have hz0 : ((buf2.size : Int) == 0) = false := by rw [beq_eq_false_iff_ne]; omega
          by_cases hr : y.rule < 0
          · go_upto_region 16 with (fail)
            obtain ⟨g, off, rfl⟩ : ∃ g off, ao = some (⟨g, off, none⟩ : Addr) := by
             rcases H3.out.1.buf with ⟨e, h0⟩ | ⟨g, off, c', cells, e, _⟩
             · omega
             · cases e; exact ⟨g, off, rfl⟩
            have hgb : g ≠ bs := (H3.out.1.own g rfl).2; obtain ⟨kk, hkk⟩ : ∃ kk, kk = (Utf8.decode buf2 0).2 := ⟨_, rfl⟩; have hkl : 1 ≤ kk ∧ kk ≤ buf2.size := by have h9 := decode_adv buf2 0 hszp; omega
            have hbi : ∀ i, i < buf2.size → w3.cell? ⟨g, off + i, none⟩ = some (.int .u8 (byt buf2 i)) := by
             rcases H3.out.1.buf.is with ⟨e, h0⟩ | ⟨g', off', c', e, h1, h2, h3⟩
             · cases e
             · cases e; exact h3
            have hdec := decode_buf buf2 0 g off cap w3 hszp H3.out.2.2.2.2.2 hbi; simp only [Nat.add_zero, Nat.sub_zero] at hdec; rw [← hkk] at hdec; have HDEC := Lib.hid hdec; have HKK := Lib.hid hkk; clear hdec hkk hbi; go_upto_region 20 with (first | (go_at_call 40; refine (HDEC.out).mono ?_; rintro e wd ⟨rfl, hbd⟩; have HBwd : Hid (Below w3.heap.size w3 wd) := Lib.hid (below_then HBw3.out hbd HBw3.out.size); obtain ⟨d2, d3, d4, d5, dx0, dx1, dx2, dx3, df5, dfx, dlb, dlx⟩ := HCELLS.out wd HBwd.out; clear hbd))
            have h3 := HBwd.out; have Hd0 := And.intro (H3.out.1.below h3) (And.intro (H3.out.2.1.trans (Keep.of_below h3)) (And.intro ((h3.block w.heap.size (lt_of_some H3.out.2.2.1)).trans H3.out.2.2.1) (And.intro ((h3.block _ (lt_of_some H3.out.2.2.2.1)).trans H3.out.2.2.2.1 : RunAt wd (w.heap.size + 1) y) (And.intro (H3.out.2.2.2.2.1.below (h3.mono (by have := H3.out.1.lt; omega) : Below BT w3 wd)) (tabs_below (B := BT) H3.out.2.2.2.2.2 (h3.mono (by have := H3.out.1.lt; omega)) hG : Tabs wd))))); have Hd := Lib.hid Hd0; clear h3 Hd0
            have hxr : RunAt (wd.setCell ⟨w.heap.size + 1, 2, none⟩ (.int .i64 kk)) (w.heap.size + 1) ⟨y.set, y.alive, kk, y.rule⟩ := heap_set_same _ _ 2 _ _ _ _ Hd.out.2.2.2.1; have hgx : wd.grownBy (wd.setCell ⟨w.heap.size + 1, 2, none⟩ (.int .i64 kk)) (some (w.heap.size + 1)) := grown_set _ _ 2 _; have hxs := Hd.out.1.grown hgx (by omega) (by omega) HST.out.own.1; have hxk := Hd.out.2.1.grown hgx (by omega); have hxq := (hgx.block w.heap.size (lt_of_some Hd.out.2.2.1) (fun e => by injection e with e; omega)).trans Hd.out.2.2.1
            generalize wd.setCell ⟨w.heap.size + 1, 2, none⟩ (.int .i64 kk) = wX at hxr hxs hxk hxq ⊢; have HX := Lib.hid (And.intro hxs (And.intro hxk (And.intro hxq hxr))); clear hxs hxk hxq hgx; obtain ⟨long, hlo⟩ : ∃ long, long = kk := ⟨_, rfl⟩; rw [← hlo] at HX hxr; have hle : long ≤ buf2.size := by omega
            have HLO := Lib.hid (hlo.trans HKK.out); clear hlo; have hbi : buf2.size ≤ cap ∧ g < wX.heap.size ∧ ∀ i, i < buf2.size → wX.cell? ⟨g, off + i, none⟩ = some (.int .u8 (byt buf2 i)) := by
             rcases HX.out.1.buf.is with ⟨e, h0⟩ | ⟨g', off', c', e, h1, h2, h3⟩
             · cases e
             · cases e; exact ⟨h1, h2, h3⟩
            have htok := token_any buf2 hsz6 ⟨y.set, y.alive, long, y.rule⟩ wX bs bt g off cap _ _ _ C at' line col HX.out.1.sc hbi.1 hbi.2.1 hgb hbi.2.2 hle HNUM.out.1 HNUM.out.2.1 HNUM.out.2.2.1; have HTOK := Lib.hid htok; obtain ⟨c0, c1, c2, c3⟩ := hxr.cells; have lxX := lt_of_some hxr; have lqX := lt_of_some HX.out.2.2.1; clear htok hbi hxr
            go_wp2_with (first | (go_at_call 41; refine (HTOK.out).mono ?_; rintro e w7 ⟨rfl, hg7, pa, hpa, hsc7⟩; have hr7 := (hg7.block w.heap.size lqX (fun e => by injection e with e; omega)).trans HX.out.2.2.1; have q0 := cell_of _ _ 0 _ _ _ hr7; have q1 := cell_of _ _ 1 _ _ _ hr7; have q2 := cell_of _ _ 2 _ _ _ hr7; have q3 := cell_of _ _ 3 _ _ _ hr7; have q4 := cell_of _ _ 4 _ _ _ hr7; simp only [List.getElem?_toArray, List.getElem?_cons_zero, List.getElem?_cons_succ] at q0 q1 q2 q3 q4; have r0 := free_of _ _ 0 _ _ hr7; have r1 := free_of _ _ 1 _ _ hr7; have r2 := free_of _ _ 2 _ _ hr7; have r3 := free_of _ _ 3 _ _ hr7; have r4 := free_of _ _ 4 _ _ hr7; have l7 := lt_of_some hr7; have H7 := Lib.hid (And.intro hg7 (And.intro hpa (And.intro hsc7 hr7))); clear hg7 hpa hsc7 hr7))
            have hgR : w7.grownBy (((((w7.setCell ⟨w.heap.size, 0, none⟩ (.int .i64 y.rule)).setCell ⟨w.heap.size, 1, none⟩ (.int .i64 at')).setCell ⟨w.heap.size, 2, none⟩ (.int .i64 line)).setCell ⟨w.heap.size, 3, none⟩ (.int .i64 col)).setCell ⟨w.heap.size, 4, none⟩ (.string (buf2.extract 0 long))) (some w.heap.size) :=
             grown_trans (grown_trans (grown_trans (grown_trans (grown_set _ _ 0 _) (grown_set _ _ 1 _)) (grown_set _ _ 2 _)) (grown_set _ _ 3 _)) (grown_set _ _ 4 _)
            have hrR : (((((w7.setCell ⟨w.heap.size, 0, none⟩ (.int .i64 y.rule)).setCell ⟨w.heap.size, 1, none⟩ (.int .i64 at')).setCell ⟨w.heap.size, 2, none⟩ (.int .i64 line)).setCell ⟨w.heap.size, 3, none⟩ (.int .i64 col)).setCell ⟨w.heap.size, 4, none⟩ (.string (buf2.extract 0 long))).heap[w.heap.size]? = some (.cells #[.int .i64 y.rule, .int .i64 at', .int .i64 line, .int .i64 col, .string (buf2.extract 0 long)] 28 (0, 0)) :=
             heap_set_same _ _ 4 _ _ _ _ (heap_set_same _ _ 3 _ _ _ _ (heap_set_same _ _ 2 _ _ _ _ (heap_set_same _ _ 1 _ _ _ _ (heap_set_same _ _ 0 _ _ _ _ H7.out.2.2.2))))
            generalize ((((w7.setCell ⟨w.heap.size, 0, none⟩ (.int .i64 y.rule)).setCell ⟨w.heap.size, 1, none⟩ (.int .i64 at')).setCell ⟨w.heap.size, 2, none⟩ (.int .i64 line)).setCell ⟨w.heap.size, 3, none⟩ (.int .i64 col)).setCell ⟨w.heap.size, 4, none⟩ (.string (buf2.extract 0 long)) = wR at hgR hrR ⊢; have z0 := cell_of _ _ 0 _ _ _ hrR; have z1 := cell_of _ _ 1 _ _ _ hrR; have z2 := cell_of _ _ 2 _ _ _ hrR; have z3 := cell_of _ _ 3 _ _ _ hrR; have z4 := cell_of _ _ 4 _ _ _ hrR; simp only [List.getElem?_toArray, List.getElem?_cons_zero, List.getElem?_cons_succ] at z0 z1 z2 z3 z4
            have hReq : R = (.tok y.rule long, buf2, why2, S2) := by
             have h := HRES.out; rw [if_neg hC, if_neg (by rintro (h9 | h9); exact hw0 h9.2; exact hw0 h9.2.1), if_neg (by rintro (h9 | h9 | h9); exact h9.2 H13.out; exact h9.2.1 H13.out; omega), if_pos hr] at h; rw [← h, HLO.out]
            refine jump_ret ?_; refine bodyPost_ret (v := .tuple #[.agg #[.int .i64 y.rule, .int .i64 at', .int .i64 line, .int .i64 col, .string (buf2.extract 0 long)], .nilIface]) (by simp [results, Tryz.results25, go_sem, z0, z1, z2, z3, z4]) rfl ?_; rw [hReq]; have hfin := HX.out.1.tok H7.out.2.2.1 H7.out.1 hle H7.out.2.1; have hpab : ∀ x, x = w.heap.size → (Value.slice (some pa) (buf2.size - long) (cap - long)).ownBlock ≠ some x := fun x hx e => by
             have h8 := hfin.2.new x e
             rcases h8 with h8 | h8
             · exact HST.out.own.2 (by rw [← hx]; exact h8)
             · omega
            exact ⟨rfl, _, hfin.1.grown hgR (by omega) (by omega) (hpab _ rfl), (HX.out.2.1.trans hfin.2).grown hgR (Nat.le_refl _)⟩
          · go_upto_region 16 with (fail)
            obtain ⟨g, off, rfl⟩ : ∃ g off, ao = some (⟨g, off, none⟩ : Addr) := by
             rcases H3.out.1.buf with ⟨e, h0⟩ | ⟨g, off, c', cells, e, _⟩
             · omega
             · cases e; exact ⟨g, off, rfl⟩
            have hgb : g ≠ bs := (H3.out.1.own g rfl).2; go_upto_region 20 with (fail)
            obtain ⟨wX, hwX⟩ : ∃ wX, wX = w3 := ⟨_, rfl⟩; obtain ⟨long, hlo⟩ : ∃ long, long = y.long := ⟨_, rfl⟩; have hxr : RunAt wX (w.heap.size + 1) ⟨y.set, y.alive, long, y.rule⟩ := by rw [hwX, hlo]; exact H3.out.2.2.2.1
            have HX : Hid (ScSt B wX bs bt sb C buf2 why2 0 at' line col S2 (.slice (some ⟨g, off, none⟩) buf2.size cap) ∧ Keep bs sb bv (.slice (some ⟨g, off, none⟩) buf2.size cap) w wX ∧ wX.heap[w.heap.size]? = some (.cells #[.int .i64 0, .int .i64 0, .int .i64 0, .int .i64 0, .string ⟨#[]⟩] 28 (0, 0)) ∧ RunAt wX (w.heap.size + 1) ⟨y.set, y.alive, long, y.rule⟩) := Lib.hid ⟨by rw [hwX]; exact H3.out.1, by rw [hwX]; exact H3.out.2.1, by rw [hwX]; exact H3.out.2.2.1, hxr⟩; rw [← hwX]; have hle : long ≤ buf2.size := by have h8 := HYY.out.2.2; have h9 := HYY.out.1.1; omega
            have HLO := Lib.hid hlo; clear hlo hwX; have hbi : buf2.size ≤ cap ∧ g < wX.heap.size ∧ ∀ i, i < buf2.size → wX.cell? ⟨g, off + i, none⟩ = some (.int .u8 (byt buf2 i)) := by
             rcases HX.out.1.buf.is with ⟨e, h0⟩ | ⟨g', off', c', e, h1, h2, h3⟩
             · cases e
             · cases e; exact ⟨h1, h2, h3⟩
            have htok := token_any buf2 hsz6 ⟨y.set, y.alive, long, y.rule⟩ wX bs bt g off cap _ _ _ C at' line col HX.out.1.sc hbi.1 hbi.2.1 hgb hbi.2.2 hle HNUM.out.1 HNUM.out.2.1 HNUM.out.2.2.1; have HTOK := Lib.hid htok; obtain ⟨c0, c1, c2, c3⟩ := hxr.cells; have lxX := lt_of_some hxr; have lqX := lt_of_some HX.out.2.2.1; clear htok hbi hxr
            go_wp2_with (first | (go_at_call 41; refine (HTOK.out).mono ?_; rintro e w7 ⟨rfl, hg7, pa, hpa, hsc7⟩; have hr7 := (hg7.block w.heap.size lqX (fun e => by injection e with e; omega)).trans HX.out.2.2.1; have q0 := cell_of _ _ 0 _ _ _ hr7; have q1 := cell_of _ _ 1 _ _ _ hr7; have q2 := cell_of _ _ 2 _ _ _ hr7; have q3 := cell_of _ _ 3 _ _ _ hr7; have q4 := cell_of _ _ 4 _ _ _ hr7; simp only [List.getElem?_toArray, List.getElem?_cons_zero, List.getElem?_cons_succ] at q0 q1 q2 q3 q4; have r0 := free_of _ _ 0 _ _ hr7; have r1 := free_of _ _ 1 _ _ hr7; have r2 := free_of _ _ 2 _ _ hr7; have r3 := free_of _ _ 3 _ _ hr7; have r4 := free_of _ _ 4 _ _ hr7; have l7 := lt_of_some hr7; have H7 := Lib.hid (And.intro hg7 (And.intro hpa (And.intro hsc7 hr7))); clear hg7 hpa hsc7 hr7))
            have hgR : w7.grownBy (((((w7.setCell ⟨w.heap.size, 0, none⟩ (.int .i64 y.rule)).setCell ⟨w.heap.size, 1, none⟩ (.int .i64 at')).setCell ⟨w.heap.size, 2, none⟩ (.int .i64 line)).setCell ⟨w.heap.size, 3, none⟩ (.int .i64 col)).setCell ⟨w.heap.size, 4, none⟩ (.string (buf2.extract 0 long))) (some w.heap.size) :=
             grown_trans (grown_trans (grown_trans (grown_trans (grown_set _ _ 0 _) (grown_set _ _ 1 _)) (grown_set _ _ 2 _)) (grown_set _ _ 3 _)) (grown_set _ _ 4 _)
            have hrR : (((((w7.setCell ⟨w.heap.size, 0, none⟩ (.int .i64 y.rule)).setCell ⟨w.heap.size, 1, none⟩ (.int .i64 at')).setCell ⟨w.heap.size, 2, none⟩ (.int .i64 line)).setCell ⟨w.heap.size, 3, none⟩ (.int .i64 col)).setCell ⟨w.heap.size, 4, none⟩ (.string (buf2.extract 0 long))).heap[w.heap.size]? = some (.cells #[.int .i64 y.rule, .int .i64 at', .int .i64 line, .int .i64 col, .string (buf2.extract 0 long)] 28 (0, 0)) :=
             heap_set_same _ _ 4 _ _ _ _ (heap_set_same _ _ 3 _ _ _ _ (heap_set_same _ _ 2 _ _ _ _ (heap_set_same _ _ 1 _ _ _ _ (heap_set_same _ _ 0 _ _ _ _ H7.out.2.2.2))))
            generalize ((((w7.setCell ⟨w.heap.size, 0, none⟩ (.int .i64 y.rule)).setCell ⟨w.heap.size, 1, none⟩ (.int .i64 at')).setCell ⟨w.heap.size, 2, none⟩ (.int .i64 line)).setCell ⟨w.heap.size, 3, none⟩ (.int .i64 col)).setCell ⟨w.heap.size, 4, none⟩ (.string (buf2.extract 0 long)) = wR at hgR hrR ⊢; have z0 := cell_of _ _ 0 _ _ _ hrR; have z1 := cell_of _ _ 1 _ _ _ hrR; have z2 := cell_of _ _ 2 _ _ _ hrR; have z3 := cell_of _ _ 3 _ _ _ hrR; have z4 := cell_of _ _ 4 _ _ _ hrR; simp only [List.getElem?_toArray, List.getElem?_cons_zero, List.getElem?_cons_succ] at z0 z1 z2 z3 z4
            have hReq : R = (.tok y.rule long, buf2, why2, S2) := by
             have h := HRES.out; rw [if_neg hC, if_neg (by rintro (h9 | h9); exact hw0 h9.2; exact hw0 h9.2.1), if_neg (by rintro (h9 | h9 | h9); exact h9.2 H13.out; exact h9.2.1 H13.out; omega), if_neg (by omega : ¬ y.rule < 0)] at h; rw [← h, HLO.out]
            refine jump_ret ?_; refine bodyPost_ret (v := .tuple #[.agg #[.int .i64 y.rule, .int .i64 at', .int .i64 line, .int .i64 col, .string (buf2.extract 0 long)], .nilIface]) (by simp [results, Tryz.results25, go_sem, z0, z1, z2, z3, z4]) rfl ?_; rw [hReq]; have hfin := HX.out.1.tok H7.out.2.2.1 H7.out.1 hle H7.out.2.1; have hpab : ∀ x, x = w.heap.size → (Value.slice (some pa) (buf2.size - long) (cap - long)).ownBlock ≠ some x := fun x hx e => by
             have h8 := hfin.2.new x e
             rcases h8 with h8 | h8
             · exact HST.out.own.2 (by rw [← hx]; exact h8)
             · omega
            exact ⟨rfl, _, hfin.1.grown hgR (by omega) (by omega) (hpab _ rfl), (HX.out.2.1.trans hfin.2).grown hgR (Nat.le_refl _)⟩
    · have HD := Lib.hid (decide_eq_false h13)
      have H13 := Lib.hid h13; clear h13; go_upto_region 7 with (first | (go_at_call 37; refine (is_num why2 13 _).mono ?_; rintro e w' ⟨rfl, hw⟩; obtain rfl := hw.symm; rw [HD.out]))
      by_cases hC : C ≤ A
      · have hzC : (C : Int) ≤ (A : Int) := by omega
        go_upto_region 17 with (fail)
        have hsE : ScSt B (w3.setCell ⟨bs, 5, none⟩ (.iface 51 (.int .i64 10))) bs bt sb C buf2 why2 10 at' line col S2 (.slice ao buf2.size cap) := by
         have h := H3.out.1.setErr 10; rw [show errV 10 = .iface 51 (.int .i64 10) from rfl] at h; exact h
        have hkE := H3.out.2.1.trans (Keep.set (bs := bs) (sb := sb) (o := 5) (w := w3) (.iface 51 (.int .i64 10))); have hrE := (heap_set w3 ⟨bs, 5, none⟩ (.iface 51 (.int .i64 10)) w.heap.size (by show w.heap.size ≠ bs; omega)).trans H3.out.2.2.1; generalize w3.setCell ⟨bs, 5, none⟩ (.iface 51 (.int .i64 10)) = wE at hsE hkE hrE ⊢; have e5 := cell_of _ _ 5 _ _ _ hsE.sc; simp only [List.getElem?_toArray, List.getElem?_cons_zero, List.getElem?_cons_succ] at e5; rw [show errV 10 = .iface 51 (.int .i64 10) from rfl] at e5; have HE := Lib.hid (And.intro hsE (And.intro hkE hrE))
        have q0 := cell_of _ _ 0 _ _ _ hrE; have q1 := cell_of _ _ 1 _ _ _ hrE; have q2 := cell_of _ _ 2 _ _ _ hrE; have q3 := cell_of _ _ 3 _ _ _ hrE; have q4 := cell_of _ _ 4 _ _ _ hrE; simp only [List.getElem?_toArray, List.getElem?_cons_zero, List.getElem?_cons_succ] at q0 q1 q2 q3 q4; have r0 := free_of _ _ 0 _ _ hrE; have r1 := free_of _ _ 1 _ _ hrE; have r2 := free_of _ _ 2 _ _ hrE; have r3 := free_of _ _ 3 _ _ hrE; have r4 := free_of _ _ 4 _ _ hrE; have lE := lt_of_some hrE; clear hsE hkE hrE; refine wp_region_noPanic ?_
        refine wp_region_sink (fun w' => w'.cell? ⟨bs, 5, none⟩ = some ((.iface 51 (.int .i64 10)))) 6 (by kernel_rfl) e5 (fun hS0 => ?_); refine sink_t 0 hS0 ?_ ?_ (v := ?_); rotate_left
        · intro w9 hS9
          (try dsimp only at hS9); go_simp; (try with_reducible rfl)
        (try simp only [Act.put, lA, lB, lC]); refine sink_t 1 hS0 ?_ ?_ (v := ?_); rotate_left
        · intro w9 hS9
          (try dsimp only at hS9); go_simp; (try with_reducible rfl)
        (try simp only [Act.put, lA, lB, lC]); refine sink_t 2 hS0 ?_ ?_ (v := ?_); rotate_left
        · intro w9 hS9
          (try dsimp only at hS9); go_simp; (try with_reducible rfl)
        (try simp only [Act.put, lA, lB, lC]); refine sink_t 3 hS0 ?_ ?_ (v := ?_); rotate_left
        · intro w9 hS9
          (try dsimp only at hS9); go_simp; (try with_reducible rfl)
        (try simp only [Act.put, lA, lB, lC]); refine sink_t 4 hS0 ?_ ?_ (v := ?_); rotate_left
        · intro w9 hS9
          (try dsimp only at hS9); go_simp; (try with_reducible rfl)
        (try simp only [Act.put, lA, lB, lC]); refine sink_step 5 (by rfl) (by kernel_rfl) (fun K hK => ?_); go_simp; have hgR : wE.grownBy (((((wE.setCell ⟨w.heap.size, 0, none⟩ (.int .i64 0)).setCell ⟨w.heap.size, 1, none⟩ (.int .i64 0)).setCell ⟨w.heap.size, 2, none⟩ (.int .i64 0)).setCell ⟨w.heap.size, 3, none⟩ (.int .i64 0)).setCell ⟨w.heap.size, 4, none⟩ (.string ⟨#[]⟩)).drew (some w.heap.size) :=
         grown_drewN (grown_trans (grown_trans (grown_trans (grown_trans (grown_set _ _ 0 _) (grown_set _ _ 1 _)) (grown_set _ _ 2 _)) (grown_set _ _ 3 _)) (grown_set _ _ 4 _)) 1
        have hrR : (((((wE.setCell ⟨w.heap.size, 0, none⟩ (.int .i64 0)).setCell ⟨w.heap.size, 1, none⟩ (.int .i64 0)).setCell ⟨w.heap.size, 2, none⟩ (.int .i64 0)).setCell ⟨w.heap.size, 3, none⟩ (.int .i64 0)).setCell ⟨w.heap.size, 4, none⟩ (.string ⟨#[]⟩)).drew.heap[w.heap.size]? = some (.cells #[.int .i64 0, .int .i64 0, .int .i64 0, .int .i64 0, .string ⟨#[]⟩] 28 (0, 0)) :=
         heap_set_same _ _ 4 _ _ _ _ (heap_set_same _ _ 3 _ _ _ _ (heap_set_same _ _ 2 _ _ _ _ (heap_set_same _ _ 1 _ _ _ _ (heap_set_same _ _ 0 _ _ _ _ HE.out.2.2))))
        generalize (((((wE.setCell ⟨w.heap.size, 0, none⟩ (.int .i64 0)).setCell ⟨w.heap.size, 1, none⟩ (.int .i64 0)).setCell ⟨w.heap.size, 2, none⟩ (.int .i64 0)).setCell ⟨w.heap.size, 3, none⟩ (.int .i64 0)).setCell ⟨w.heap.size, 4, none⟩ (.string ⟨#[]⟩)).drew = wR at hgR hrR ⊢; have hv5 : wR.cell? ⟨bs, 5, none⟩ = some ((.iface 51 (.int .i64 10))) := (World.cell?_of_block (hgR.block bs (by have := HE.out.1.lt; omega) (fun e => by injection e with e; omega))).trans e5; have HGR := Lib.hid (And.intro hgR hrR); refine hK.out _ _ (fun _ => hv5) ?_
        clear hK K hgR hrR q0 q1 q2 q3 q4 r0 r1 r2 r3 r4; (try simp only [Act.put, lA, lB, lC]); refine sink_step 6 (by rfl) (by kernel_rfl) (fun K hK => ?_); go_simp; refine hK.out _ _ (fun h => absurd rfl h) ?_; clear hK K; (try simp only [Act.put, lA, lB, lC]); refine sink_done (by kernel_rfl) ?_; refine NoPanic.normal ?_; go_wp2_with (fail); have z0 := cell_of _ _ 0 _ _ _ HGR.out.2; have z1 := cell_of _ _ 1 _ _ _ HGR.out.2; have z2 := cell_of _ _ 2 _ _ _ HGR.out.2; have z3 := cell_of _ _ 3 _ _ _ HGR.out.2; have z4 := cell_of _ _ 4 _ _ _ HGR.out.2
        simp only [List.getElem?_toArray, List.getElem?_cons_zero, List.getElem?_cons_succ] at z0 z1 z2 z3 z4; have hReq : R = (.err 10, buf2, why2, S2) := by
         have h := HRES.out; rw [if_pos hC] at h; exact h.symm
        refine jump_ret ?_; refine bodyPost_ret (v := .tuple #[.agg #[.int .i64 0, .int .i64 0, .int .i64 0, .int .i64 0, .string ⟨#[]⟩], (.iface 51 (.int .i64 10))]) (by simp [results, Tryz.results25, go_sem, z0, z1, z2, z3, z4]) rfl ?_; rw [hReq]; refine ⟨by rw [show errV 10 = .iface 51 (.int .i64 10) from rfl], .slice ao buf2.size cap, HE.out.1.grown HGR.out.1 (by omega) (by omega) HST.out.own.2, HE.out.2.1.grown HGR.out.1 (Nat.le_refl _)⟩
      · have hzC : (A : Int) < (C : Int) := by omega
        have hzC2 : ¬ (C : Int) ≤ (A : Int) := by omega
        by_cases hs : A = buf2.size
        · have hzs : ((A : Int) == (buf2.size : Int)) = true := by simp; omega
          by_cases hr : y.rule < 0
          · go_upto_region 17 with (fail)
            have hsE : ScSt B (w3.setCell ⟨bs, 5, none⟩ (.iface 51 (.int .i64 why2))) bs bt sb C buf2 why2 why2 at' line col S2 (.slice ao buf2.size cap) := by
             have h := H3.out.1.setErr why2; rw [errV_pos hw0] at h; exact h
            have hkE := H3.out.2.1.trans (Keep.set (bs := bs) (sb := sb) (o := 5) (w := w3) (.iface 51 (.int .i64 why2))); have hrE := (heap_set w3 ⟨bs, 5, none⟩ (.iface 51 (.int .i64 why2)) w.heap.size (by show w.heap.size ≠ bs; omega)).trans H3.out.2.2.1; generalize w3.setCell ⟨bs, 5, none⟩ (.iface 51 (.int .i64 why2)) = wE at hsE hkE hrE ⊢; have e5 := cell_of _ _ 5 _ _ _ hsE.sc; simp only [List.getElem?_toArray, List.getElem?_cons_zero, List.getElem?_cons_succ] at e5; rw [errV_pos hw0] at e5; have HE := Lib.hid (And.intro hsE (And.intro hkE hrE)); have q0 := cell_of _ _ 0 _ _ _ hrE
            have q1 := cell_of _ _ 1 _ _ _ hrE; have q2 := cell_of _ _ 2 _ _ _ hrE; have q3 := cell_of _ _ 3 _ _ _ hrE; have q4 := cell_of _ _ 4 _ _ _ hrE; simp only [List.getElem?_toArray, List.getElem?_cons_zero, List.getElem?_cons_succ] at q0 q1 q2 q3 q4; have r0 := free_of _ _ 0 _ _ hrE; have r1 := free_of _ _ 1 _ _ hrE; have r2 := free_of _ _ 2 _ _ hrE; have r3 := free_of _ _ 3 _ _ hrE; have r4 := free_of _ _ 4 _ _ hrE; have lE := lt_of_some hrE; clear hsE hkE hrE; refine wp_region_noPanic ?_
            refine wp_region_sink (fun w' => w'.cell? ⟨bs, 5, none⟩ = some ((.iface 51 (.int .i64 why2)))) 6 (by kernel_rfl) e5 (fun hS0 => ?_); refine sink_t 0 hS0 ?_ ?_ (v := ?_); rotate_left
            · intro w9 hS9
              (try dsimp only at hS9); go_simp; (try with_reducible rfl)
            (try simp only [Act.put, lA, lB, lC]); refine sink_t 1 hS0 ?_ ?_ (v := ?_); rotate_left
            · intro w9 hS9
              (try dsimp only at hS9); go_simp; (try with_reducible rfl)
            (try simp only [Act.put, lA, lB, lC]); refine sink_t 2 hS0 ?_ ?_ (v := ?_); rotate_left
            · intro w9 hS9
              (try dsimp only at hS9); go_simp; (try with_reducible rfl)
            (try simp only [Act.put, lA, lB, lC]); refine sink_t 3 hS0 ?_ ?_ (v := ?_); rotate_left
            · intro w9 hS9
              (try dsimp only at hS9); go_simp; (try with_reducible rfl)
            (try simp only [Act.put, lA, lB, lC]); refine sink_t 4 hS0 ?_ ?_ (v := ?_); rotate_left
            · intro w9 hS9
              (try dsimp only at hS9); go_simp; (try with_reducible rfl)
            (try simp only [Act.put, lA, lB, lC]); refine sink_step 5 (by rfl) (by kernel_rfl) (fun K hK => ?_); go_simp; have hgR : wE.grownBy (((((wE.setCell ⟨w.heap.size, 0, none⟩ (.int .i64 0)).setCell ⟨w.heap.size, 1, none⟩ (.int .i64 0)).setCell ⟨w.heap.size, 2, none⟩ (.int .i64 0)).setCell ⟨w.heap.size, 3, none⟩ (.int .i64 0)).setCell ⟨w.heap.size, 4, none⟩ (.string ⟨#[]⟩)).drew (some w.heap.size) :=
             grown_drewN (grown_trans (grown_trans (grown_trans (grown_trans (grown_set _ _ 0 _) (grown_set _ _ 1 _)) (grown_set _ _ 2 _)) (grown_set _ _ 3 _)) (grown_set _ _ 4 _)) 1
            have hrR : (((((wE.setCell ⟨w.heap.size, 0, none⟩ (.int .i64 0)).setCell ⟨w.heap.size, 1, none⟩ (.int .i64 0)).setCell ⟨w.heap.size, 2, none⟩ (.int .i64 0)).setCell ⟨w.heap.size, 3, none⟩ (.int .i64 0)).setCell ⟨w.heap.size, 4, none⟩ (.string ⟨#[]⟩)).drew.heap[w.heap.size]? = some (.cells #[.int .i64 0, .int .i64 0, .int .i64 0, .int .i64 0, .string ⟨#[]⟩] 28 (0, 0)) :=
             heap_set_same _ _ 4 _ _ _ _ (heap_set_same _ _ 3 _ _ _ _ (heap_set_same _ _ 2 _ _ _ _ (heap_set_same _ _ 1 _ _ _ _ (heap_set_same _ _ 0 _ _ _ _ HE.out.2.2))))
            generalize (((((wE.setCell ⟨w.heap.size, 0, none⟩ (.int .i64 0)).setCell ⟨w.heap.size, 1, none⟩ (.int .i64 0)).setCell ⟨w.heap.size, 2, none⟩ (.int .i64 0)).setCell ⟨w.heap.size, 3, none⟩ (.int .i64 0)).setCell ⟨w.heap.size, 4, none⟩ (.string ⟨#[]⟩)).drew = wR at hgR hrR ⊢; have hv5 : wR.cell? ⟨bs, 5, none⟩ = some ((.iface 51 (.int .i64 why2))) := (World.cell?_of_block (hgR.block bs (by have := HE.out.1.lt; omega) (fun e => by injection e with e; omega))).trans e5; have HGR := Lib.hid (And.intro hgR hrR); refine hK.out _ _ (fun _ => hv5) ?_
            clear hK K hgR hrR q0 q1 q2 q3 q4 r0 r1 r2 r3 r4; (try simp only [Act.put, lA, lB, lC]); refine sink_step 6 (by rfl) (by kernel_rfl) (fun K hK => ?_); go_simp; refine hK.out _ _ (fun h => absurd rfl h) ?_; clear hK K; (try simp only [Act.put, lA, lB, lC]); refine sink_done (by kernel_rfl) ?_; refine NoPanic.normal ?_; go_wp2_with (fail); have z0 := cell_of _ _ 0 _ _ _ HGR.out.2; have z1 := cell_of _ _ 1 _ _ _ HGR.out.2; have z2 := cell_of _ _ 2 _ _ _ HGR.out.2; have z3 := cell_of _ _ 3 _ _ _ HGR.out.2; have z4 := cell_of _ _ 4 _ _ _ HGR.out.2
            simp only [List.getElem?_toArray, List.getElem?_cons_zero, List.getElem?_cons_succ] at z0 z1 z2 z3 z4; have hReq : R = (.err why2, buf2, why2, S2) := by
             have h := HRES.out; rw [if_neg hC, if_neg (by rintro (h9 | h9); exact hw0 h9.2; exact hw0 h9.2.1), if_pos (.inl ⟨hs, H13.out⟩)] at h; exact h.symm
            refine jump_ret ?_; refine bodyPost_ret (v := .tuple #[.agg #[.int .i64 0, .int .i64 0, .int .i64 0, .int .i64 0, .string ⟨#[]⟩], (.iface 51 (.int .i64 why2))]) (by simp [results, Tryz.results25, go_sem, z0, z1, z2, z3, z4]) rfl ?_; rw [hReq]; refine ⟨by rw [errV_pos hw0], .slice ao buf2.size cap, HE.out.1.grown HGR.out.1 (by omega) (by omega) HST.out.own.2, HE.out.2.1.grown HGR.out.1 (Nat.le_refl _)⟩
          · go_upto_region 17 with (fail)
            have hsE : ScSt B (w3.setCell ⟨bs, 5, none⟩ (.iface 51 (.int .i64 why2))) bs bt sb C buf2 why2 why2 at' line col S2 (.slice ao buf2.size cap) := by
             have h := H3.out.1.setErr why2; rw [errV_pos hw0] at h; exact h
            have hkE := H3.out.2.1.trans (Keep.set (bs := bs) (sb := sb) (o := 5) (w := w3) (.iface 51 (.int .i64 why2))); have hrE := (heap_set w3 ⟨bs, 5, none⟩ (.iface 51 (.int .i64 why2)) w.heap.size (by show w.heap.size ≠ bs; omega)).trans H3.out.2.2.1; generalize w3.setCell ⟨bs, 5, none⟩ (.iface 51 (.int .i64 why2)) = wE at hsE hkE hrE ⊢; have e5 := cell_of _ _ 5 _ _ _ hsE.sc; simp only [List.getElem?_toArray, List.getElem?_cons_zero, List.getElem?_cons_succ] at e5; rw [errV_pos hw0] at e5; have HE := Lib.hid (And.intro hsE (And.intro hkE hrE)); have q0 := cell_of _ _ 0 _ _ _ hrE
            have q1 := cell_of _ _ 1 _ _ _ hrE; have q2 := cell_of _ _ 2 _ _ _ hrE; have q3 := cell_of _ _ 3 _ _ _ hrE; have q4 := cell_of _ _ 4 _ _ _ hrE; simp only [List.getElem?_toArray, List.getElem?_cons_zero, List.getElem?_cons_succ] at q0 q1 q2 q3 q4; have r0 := free_of _ _ 0 _ _ hrE; have r1 := free_of _ _ 1 _ _ hrE; have r2 := free_of _ _ 2 _ _ hrE; have r3 := free_of _ _ 3 _ _ hrE; have r4 := free_of _ _ 4 _ _ hrE; have lE := lt_of_some hrE; clear hsE hkE hrE; refine wp_region_noPanic ?_
            refine wp_region_sink (fun w' => w'.cell? ⟨bs, 5, none⟩ = some ((.iface 51 (.int .i64 why2)))) 6 (by kernel_rfl) e5 (fun hS0 => ?_); refine sink_t 0 hS0 ?_ ?_ (v := ?_); rotate_left
            · intro w9 hS9
              (try dsimp only at hS9); go_simp; (try with_reducible rfl)
            (try simp only [Act.put, lA, lB, lC]); refine sink_t 1 hS0 ?_ ?_ (v := ?_); rotate_left
            · intro w9 hS9
              (try dsimp only at hS9); go_simp; (try with_reducible rfl)
            (try simp only [Act.put, lA, lB, lC]); refine sink_t 2 hS0 ?_ ?_ (v := ?_); rotate_left
            · intro w9 hS9
              (try dsimp only at hS9); go_simp; (try with_reducible rfl)
            (try simp only [Act.put, lA, lB, lC]); refine sink_t 3 hS0 ?_ ?_ (v := ?_); rotate_left
            · intro w9 hS9
              (try dsimp only at hS9); go_simp; (try with_reducible rfl)
            (try simp only [Act.put, lA, lB, lC]); refine sink_t 4 hS0 ?_ ?_ (v := ?_); rotate_left
            · intro w9 hS9
              (try dsimp only at hS9); go_simp; (try with_reducible rfl)
            (try simp only [Act.put, lA, lB, lC]); refine sink_step 5 (by rfl) (by kernel_rfl) (fun K hK => ?_); go_simp; have hgR : wE.grownBy (((((wE.setCell ⟨w.heap.size, 0, none⟩ (.int .i64 0)).setCell ⟨w.heap.size, 1, none⟩ (.int .i64 0)).setCell ⟨w.heap.size, 2, none⟩ (.int .i64 0)).setCell ⟨w.heap.size, 3, none⟩ (.int .i64 0)).setCell ⟨w.heap.size, 4, none⟩ (.string ⟨#[]⟩)).drew (some w.heap.size) :=
             grown_drewN (grown_trans (grown_trans (grown_trans (grown_trans (grown_set _ _ 0 _) (grown_set _ _ 1 _)) (grown_set _ _ 2 _)) (grown_set _ _ 3 _)) (grown_set _ _ 4 _)) 1
            have hrR : (((((wE.setCell ⟨w.heap.size, 0, none⟩ (.int .i64 0)).setCell ⟨w.heap.size, 1, none⟩ (.int .i64 0)).setCell ⟨w.heap.size, 2, none⟩ (.int .i64 0)).setCell ⟨w.heap.size, 3, none⟩ (.int .i64 0)).setCell ⟨w.heap.size, 4, none⟩ (.string ⟨#[]⟩)).drew.heap[w.heap.size]? = some (.cells #[.int .i64 0, .int .i64 0, .int .i64 0, .int .i64 0, .string ⟨#[]⟩] 28 (0, 0)) :=
             heap_set_same _ _ 4 _ _ _ _ (heap_set_same _ _ 3 _ _ _ _ (heap_set_same _ _ 2 _ _ _ _ (heap_set_same _ _ 1 _ _ _ _ (heap_set_same _ _ 0 _ _ _ _ HE.out.2.2))))
            generalize (((((wE.setCell ⟨w.heap.size, 0, none⟩ (.int .i64 0)).setCell ⟨w.heap.size, 1, none⟩ (.int .i64 0)).setCell ⟨w.heap.size, 2, none⟩ (.int .i64 0)).setCell ⟨w.heap.size, 3, none⟩ (.int .i64 0)).setCell ⟨w.heap.size, 4, none⟩ (.string ⟨#[]⟩)).drew = wR at hgR hrR ⊢; have hv5 : wR.cell? ⟨bs, 5, none⟩ = some ((.iface 51 (.int .i64 why2))) := (World.cell?_of_block (hgR.block bs (by have := HE.out.1.lt; omega) (fun e => by injection e with e; omega))).trans e5; have HGR := Lib.hid (And.intro hgR hrR); refine hK.out _ _ (fun _ => hv5) ?_
            clear hK K hgR hrR q0 q1 q2 q3 q4 r0 r1 r2 r3 r4; (try simp only [Act.put, lA, lB, lC]); refine sink_step 6 (by rfl) (by kernel_rfl) (fun K hK => ?_); go_simp; refine hK.out _ _ (fun h => absurd rfl h) ?_; clear hK K; (try simp only [Act.put, lA, lB, lC]); refine sink_done (by kernel_rfl) ?_; refine NoPanic.normal ?_; go_wp2_with (fail); have z0 := cell_of _ _ 0 _ _ _ HGR.out.2; have z1 := cell_of _ _ 1 _ _ _ HGR.out.2; have z2 := cell_of _ _ 2 _ _ _ HGR.out.2; have z3 := cell_of _ _ 3 _ _ _ HGR.out.2; have z4 := cell_of _ _ 4 _ _ _ HGR.out.2
            simp only [List.getElem?_toArray, List.getElem?_cons_zero, List.getElem?_cons_succ] at z0 z1 z2 z3 z4; have hReq : R = (.err why2, buf2, why2, S2) := by
             have h := HRES.out; rw [if_neg hC, if_neg (by rintro (h9 | h9); exact hw0 h9.2; exact hw0 h9.2.1), if_pos (.inl ⟨hs, H13.out⟩)] at h; exact h.symm
            refine jump_ret ?_; refine bodyPost_ret (v := .tuple #[.agg #[.int .i64 0, .int .i64 0, .int .i64 0, .int .i64 0, .string ⟨#[]⟩], (.iface 51 (.int .i64 why2))]) (by simp [results, Tryz.results25, go_sem, z0, z1, z2, z3, z4]) rfl ?_; rw [hReq]; refine ⟨by rw [errV_pos hw0], .slice ao buf2.size cap, HE.out.1.grown HGR.out.1 (by omega) (by omega) HST.out.own.2, HE.out.2.1.grown HGR.out.1 (Nat.le_refl _)⟩
        · have hzs : ((A : Int) == (buf2.size : Int)) = false := by simp; omega
          have hszp : 0 < buf2.size := by have h1 := HAL.out; have h2 := HA.out; omega
          have hz0 : ((buf2.size : Int) == 0) = false := by rw [beq_eq_false_iff_ne]; omega
          by_cases hr : y.rule < 0
          · cases hf : fullP buf2 0 with
            | false =>
             have HF := Lib.hid hf; clear hf; go_upto_region 17 with (first | (go_at_call 38; refine (HFULL.out _ HBw3.out).mono ?_; rintro e w4 ⟨rfl, hbf⟩; rw [HF.out]; have HBw4 : Hid (Below w3.heap.size w3 w4) := Lib.hid (below_then HBw3.out hbf HBw3.out.size); obtain ⟨v2, v3, v4, v5, vx0, vx1, vx2, vx3, vf5, vfx, vlb, vlx⟩ := HCELLS.out w4 HBw4.out; clear hbf))
             have h3 := HBw4.out; have H40 := And.intro (H3.out.1.below h3) (And.intro (H3.out.2.1.trans (Keep.of_below h3)) (And.intro ((h3.block w.heap.size (lt_of_some H3.out.2.2.1)).trans H3.out.2.2.1) (And.intro ((h3.block _ (lt_of_some H3.out.2.2.2.1)).trans H3.out.2.2.2.1 : RunAt w4 (w.heap.size + 1) y) (And.intro (H3.out.2.2.2.2.1.below (h3.mono (by have := H3.out.1.lt; omega) : Below BT w3 w4)) (tabs_below (B := BT) H3.out.2.2.2.2.2 (h3.mono (by have := H3.out.1.lt; omega)) hG : Tabs w4))))); have H4 := Lib.hid H40; clear h3 H40
             have hsE : ScSt B (w4.setCell ⟨bs, 5, none⟩ (.iface 51 (.int .i64 why2))) bs bt sb C buf2 why2 why2 at' line col S2 (.slice ao buf2.size cap) := by
              have h := H4.out.1.setErr why2; rw [errV_pos hw0] at h; exact h
             have hkE := H4.out.2.1.trans (Keep.set (bs := bs) (sb := sb) (o := 5) (w := w4) (.iface 51 (.int .i64 why2))); have hrE := (heap_set w4 ⟨bs, 5, none⟩ (.iface 51 (.int .i64 why2)) w.heap.size (by show w.heap.size ≠ bs; omega)).trans H4.out.2.2.1; generalize w4.setCell ⟨bs, 5, none⟩ (.iface 51 (.int .i64 why2)) = wE at hsE hkE hrE ⊢; have e5 := cell_of _ _ 5 _ _ _ hsE.sc; simp only [List.getElem?_toArray, List.getElem?_cons_zero, List.getElem?_cons_succ] at e5; rw [errV_pos hw0] at e5; have HE := Lib.hid (And.intro hsE (And.intro hkE hrE)); have q0 := cell_of _ _ 0 _ _ _ hrE
             have q1 := cell_of _ _ 1 _ _ _ hrE; have q2 := cell_of _ _ 2 _ _ _ hrE; have q3 := cell_of _ _ 3 _ _ _ hrE; have q4 := cell_of _ _ 4 _ _ _ hrE; simp only [List.getElem?_toArray, List.getElem?_cons_zero, List.getElem?_cons_succ] at q0 q1 q2 q3 q4; have r0 := free_of _ _ 0 _ _ hrE; have r1 := free_of _ _ 1 _ _ hrE; have r2 := free_of _ _ 2 _ _ hrE; have r3 := free_of _ _ 3 _ _ hrE; have r4 := free_of _ _ 4 _ _ hrE; have lE := lt_of_some hrE; clear hsE hkE hrE; refine wp_region_noPanic ?_
             refine wp_region_sink (fun w' => w'.cell? ⟨bs, 5, none⟩ = some ((.iface 51 (.int .i64 why2)))) 6 (by kernel_rfl) e5 (fun hS0 => ?_); refine sink_t 0 hS0 ?_ ?_ (v := ?_); rotate_left
             · intro w9 hS9
               (try dsimp only at hS9); go_simp; (try with_reducible rfl)
             (try simp only [Act.put, lA, lB, lC]); refine sink_t 1 hS0 ?_ ?_ (v := ?_); rotate_left
             · intro w9 hS9
               (try dsimp only at hS9); go_simp; (try with_reducible rfl)
             (try simp only [Act.put, lA, lB, lC]); refine sink_t 2 hS0 ?_ ?_ (v := ?_); rotate_left
             · intro w9 hS9
               (try dsimp only at hS9); go_simp; (try with_reducible rfl)
             (try simp only [Act.put, lA, lB, lC]); refine sink_t 3 hS0 ?_ ?_ (v := ?_); rotate_left
             · intro w9 hS9
               (try dsimp only at hS9); go_simp; (try with_reducible rfl)
             (try simp only [Act.put, lA, lB, lC]); refine sink_t 4 hS0 ?_ ?_ (v := ?_); rotate_left
             · intro w9 hS9
               (try dsimp only at hS9); go_simp; (try with_reducible rfl)
             (try simp only [Act.put, lA, lB, lC]); refine sink_step 5 (by rfl) (by kernel_rfl) (fun K hK => ?_); go_simp; have hgR : wE.grownBy (((((wE.setCell ⟨w.heap.size, 0, none⟩ (.int .i64 0)).setCell ⟨w.heap.size, 1, none⟩ (.int .i64 0)).setCell ⟨w.heap.size, 2, none⟩ (.int .i64 0)).setCell ⟨w.heap.size, 3, none⟩ (.int .i64 0)).setCell ⟨w.heap.size, 4, none⟩ (.string ⟨#[]⟩)).drew (some w.heap.size) :=
              grown_drewN (grown_trans (grown_trans (grown_trans (grown_trans (grown_set _ _ 0 _) (grown_set _ _ 1 _)) (grown_set _ _ 2 _)) (grown_set _ _ 3 _)) (grown_set _ _ 4 _)) 1
             have hrR : (((((wE.setCell ⟨w.heap.size, 0, none⟩ (.int .i64 0)).setCell ⟨w.heap.size, 1, none⟩ (.int .i64 0)).setCell ⟨w.heap.size, 2, none⟩ (.int .i64 0)).setCell ⟨w.heap.size, 3, none⟩ (.int .i64 0)).setCell ⟨w.heap.size, 4, none⟩ (.string ⟨#[]⟩)).drew.heap[w.heap.size]? = some (.cells #[.int .i64 0, .int .i64 0, .int .i64 0, .int .i64 0, .string ⟨#[]⟩] 28 (0, 0)) :=
              heap_set_same _ _ 4 _ _ _ _ (heap_set_same _ _ 3 _ _ _ _ (heap_set_same _ _ 2 _ _ _ _ (heap_set_same _ _ 1 _ _ _ _ (heap_set_same _ _ 0 _ _ _ _ HE.out.2.2))))
             generalize (((((wE.setCell ⟨w.heap.size, 0, none⟩ (.int .i64 0)).setCell ⟨w.heap.size, 1, none⟩ (.int .i64 0)).setCell ⟨w.heap.size, 2, none⟩ (.int .i64 0)).setCell ⟨w.heap.size, 3, none⟩ (.int .i64 0)).setCell ⟨w.heap.size, 4, none⟩ (.string ⟨#[]⟩)).drew = wR at hgR hrR ⊢; have hv5 : wR.cell? ⟨bs, 5, none⟩ = some ((.iface 51 (.int .i64 why2))) := (World.cell?_of_block (hgR.block bs (by have := HE.out.1.lt; omega) (fun e => by injection e with e; omega))).trans e5; have HGR := Lib.hid (And.intro hgR hrR); refine hK.out _ _ (fun _ => hv5) ?_
             clear hK K hgR hrR q0 q1 q2 q3 q4 r0 r1 r2 r3 r4; (try simp only [Act.put, lA, lB, lC]); refine sink_step 6 (by rfl) (by kernel_rfl) (fun K hK => ?_); go_simp; refine hK.out _ _ (fun h => absurd rfl h) ?_; clear hK K; (try simp only [Act.put, lA, lB, lC]); refine sink_done (by kernel_rfl) ?_; refine NoPanic.normal ?_; go_wp2_with (fail); have z0 := cell_of _ _ 0 _ _ _ HGR.out.2; have z1 := cell_of _ _ 1 _ _ _ HGR.out.2; have z2 := cell_of _ _ 2 _ _ _ HGR.out.2; have z3 := cell_of _ _ 3 _ _ _ HGR.out.2; have z4 := cell_of _ _ 4 _ _ _ HGR.out.2
             simp only [List.getElem?_toArray, List.getElem?_cons_zero, List.getElem?_cons_succ] at z0 z1 z2 z3 z4; have hReq : R = (.err why2, buf2, why2, S2) := by
              have h := HRES.out; rw [if_neg hC, if_neg (by rintro (h9 | h9); exact hw0 h9.2; exact hw0 h9.2.1), if_pos (.inr (.inl ⟨hr, H13.out, HF.out⟩))] at h; exact h.symm
             refine jump_ret ?_; refine bodyPost_ret (v := .tuple #[.agg #[.int .i64 0, .int .i64 0, .int .i64 0, .int .i64 0, .string ⟨#[]⟩], (.iface 51 (.int .i64 why2))]) (by simp [results, Tryz.results25, go_sem, z0, z1, z2, z3, z4]) rfl ?_; rw [hReq]; refine ⟨by rw [errV_pos hw0], .slice ao buf2.size cap, HE.out.1.grown HGR.out.1 (by omega) (by omega) HST.out.own.2, HE.out.2.1.grown HGR.out.1 (Nat.le_refl _)⟩
            | true =>
             have HF := Lib.hid hf; clear hf; go_upto_region 16 with (first | (go_at_call 38; refine (HFULL.out _ HBw3.out).mono ?_; rintro e w4 ⟨rfl, hbf⟩; rw [HF.out]; have HBw4 : Hid (Below w3.heap.size w3 w4) := Lib.hid (below_then HBw3.out hbf HBw3.out.size); obtain ⟨v2, v3, v4, v5, vx0, vx1, vx2, vx3, vf5, vfx, vlb, vlx⟩ := HCELLS.out w4 HBw4.out; clear hbf))
             have h3 := HBw4.out; have H40 := And.intro (H3.out.1.below h3) (And.intro (H3.out.2.1.trans (Keep.of_below h3)) (And.intro ((h3.block w.heap.size (lt_of_some H3.out.2.2.1)).trans H3.out.2.2.1) (And.intro ((h3.block _ (lt_of_some H3.out.2.2.2.1)).trans H3.out.2.2.2.1 : RunAt w4 (w.heap.size + 1) y) (And.intro (H3.out.2.2.2.2.1.below (h3.mono (by have := H3.out.1.lt; omega) : Below BT w3 w4)) (tabs_below (B := BT) H3.out.2.2.2.2.2 (h3.mono (by have := H3.out.1.lt; omega)) hG : Tabs w4))))); have H4 := Lib.hid H40; clear h3 H40
             obtain ⟨g, off, rfl⟩ : ∃ g off, ao = some (⟨g, off, none⟩ : Addr) := by
              rcases H4.out.1.buf with ⟨e, h0⟩ | ⟨g, off, c', cells, e, _⟩
              · omega
              · cases e; exact ⟨g, off, rfl⟩
             have hgb : g ≠ bs := (H4.out.1.own g rfl).2; obtain ⟨kk, hkk⟩ : ∃ kk, kk = (Utf8.decode buf2 0).2 := ⟨_, rfl⟩; have hkl : 1 ≤ kk ∧ kk ≤ buf2.size := by have h9 := decode_adv buf2 0 hszp; omega
             have hbi : ∀ i, i < buf2.size → w4.cell? ⟨g, off + i, none⟩ = some (.int .u8 (byt buf2 i)) := by
              rcases H4.out.1.buf.is with ⟨e, h0⟩ | ⟨g', off', c', e, h1, h2, h3⟩
              · cases e
              · cases e; exact h3
             have hdec := decode_buf buf2 0 g off cap w4 hszp H4.out.2.2.2.2.2 hbi; simp only [Nat.add_zero, Nat.sub_zero] at hdec; rw [← hkk] at hdec; have HDEC := Lib.hid hdec; have HKK := Lib.hid hkk; clear hdec hkk hbi; go_upto_region 20 with (first | (go_at_call 40; refine (HDEC.out).mono ?_; rintro e wd ⟨rfl, hbd⟩; have HBwd : Hid (Below w3.heap.size w3 wd) := Lib.hid (below_then HBw4.out hbd HBw4.out.size); obtain ⟨d2, d3, d4, d5, dx0, dx1, dx2, dx3, df5, dfx, dlb, dlx⟩ := HCELLS.out wd HBwd.out; clear hbd))
             have h3 := HBwd.out; have Hd0 := And.intro (H3.out.1.below h3) (And.intro (H3.out.2.1.trans (Keep.of_below h3)) (And.intro ((h3.block w.heap.size (lt_of_some H3.out.2.2.1)).trans H3.out.2.2.1) (And.intro ((h3.block _ (lt_of_some H3.out.2.2.2.1)).trans H3.out.2.2.2.1 : RunAt wd (w.heap.size + 1) y) (And.intro (H3.out.2.2.2.2.1.below (h3.mono (by have := H3.out.1.lt; omega) : Below BT w3 wd)) (tabs_below (B := BT) H3.out.2.2.2.2.2 (h3.mono (by have := H3.out.1.lt; omega)) hG : Tabs wd))))); have Hd := Lib.hid Hd0; clear h3 Hd0
             have hxr : RunAt (wd.setCell ⟨w.heap.size + 1, 2, none⟩ (.int .i64 kk)) (w.heap.size + 1) ⟨y.set, y.alive, kk, y.rule⟩ := heap_set_same _ _ 2 _ _ _ _ Hd.out.2.2.2.1; have hgx : wd.grownBy (wd.setCell ⟨w.heap.size + 1, 2, none⟩ (.int .i64 kk)) (some (w.heap.size + 1)) := grown_set _ _ 2 _; have hxs := Hd.out.1.grown hgx (by omega) (by omega) HST.out.own.1; have hxk := Hd.out.2.1.grown hgx (by omega); have hxq := (hgx.block w.heap.size (lt_of_some Hd.out.2.2.1) (fun e => by injection e with e; omega)).trans Hd.out.2.2.1
             generalize wd.setCell ⟨w.heap.size + 1, 2, none⟩ (.int .i64 kk) = wX at hxr hxs hxk hxq ⊢; have HX := Lib.hid (And.intro hxs (And.intro hxk (And.intro hxq hxr))); clear hxs hxk hxq hgx; obtain ⟨long, hlo⟩ : ∃ long, long = kk := ⟨_, rfl⟩; rw [← hlo] at HX hxr; have hle : long ≤ buf2.size := by omega
             have HLO := Lib.hid (hlo.trans HKK.out); clear hlo; have hbi : buf2.size ≤ cap ∧ g < wX.heap.size ∧ ∀ i, i < buf2.size → wX.cell? ⟨g, off + i, none⟩ = some (.int .u8 (byt buf2 i)) := by
              rcases HX.out.1.buf.is with ⟨e, h0⟩ | ⟨g', off', c', e, h1, h2, h3⟩
              · cases e
              · cases e; exact ⟨h1, h2, h3⟩
             have htok := token_any buf2 hsz6 ⟨y.set, y.alive, long, y.rule⟩ wX bs bt g off cap _ _ _ C at' line col HX.out.1.sc hbi.1 hbi.2.1 hgb hbi.2.2 hle HNUM.out.1 HNUM.out.2.1 HNUM.out.2.2.1; have HTOK := Lib.hid htok; obtain ⟨c0, c1, c2, c3⟩ := hxr.cells; have lxX := lt_of_some hxr; have lqX := lt_of_some HX.out.2.2.1; clear htok hbi hxr
             go_wp2_with (first | (go_at_call 41; refine (HTOK.out).mono ?_; rintro e w7 ⟨rfl, hg7, pa, hpa, hsc7⟩; have hr7 := (hg7.block w.heap.size lqX (fun e => by injection e with e; omega)).trans HX.out.2.2.1; have q0 := cell_of _ _ 0 _ _ _ hr7; have q1 := cell_of _ _ 1 _ _ _ hr7; have q2 := cell_of _ _ 2 _ _ _ hr7; have q3 := cell_of _ _ 3 _ _ _ hr7; have q4 := cell_of _ _ 4 _ _ _ hr7; simp only [List.getElem?_toArray, List.getElem?_cons_zero, List.getElem?_cons_succ] at q0 q1 q2 q3 q4; have r0 := free_of _ _ 0 _ _ hr7; have r1 := free_of _ _ 1 _ _ hr7; have r2 := free_of _ _ 2 _ _ hr7; have r3 := free_of _ _ 3 _ _ hr7; have r4 := free_of _ _ 4 _ _ hr7; have l7 := lt_of_some hr7; have H7 := Lib.hid (And.intro hg7 (And.intro hpa (And.intro hsc7 hr7))); clear hg7 hpa hsc7 hr7))
             have hgR : w7.grownBy (((((w7.setCell ⟨w.heap.size, 0, none⟩ (.int .i64 y.rule)).setCell ⟨w.heap.size, 1, none⟩ (.int .i64 at')).setCell ⟨w.heap.size, 2, none⟩ (.int .i64 line)).setCell ⟨w.heap.size, 3, none⟩ (.int .i64 col)).setCell ⟨w.heap.size, 4, none⟩ (.string (buf2.extract 0 long))) (some w.heap.size) :=
              grown_trans (grown_trans (grown_trans (grown_trans (grown_set _ _ 0 _) (grown_set _ _ 1 _)) (grown_set _ _ 2 _)) (grown_set _ _ 3 _)) (grown_set _ _ 4 _)
             have hrR : (((((w7.setCell ⟨w.heap.size, 0, none⟩ (.int .i64 y.rule)).setCell ⟨w.heap.size, 1, none⟩ (.int .i64 at')).setCell ⟨w.heap.size, 2, none⟩ (.int .i64 line)).setCell ⟨w.heap.size, 3, none⟩ (.int .i64 col)).setCell ⟨w.heap.size, 4, none⟩ (.string (buf2.extract 0 long))).heap[w.heap.size]? = some (.cells #[.int .i64 y.rule, .int .i64 at', .int .i64 line, .int .i64 col, .string (buf2.extract 0 long)] 28 (0, 0)) :=
              heap_set_same _ _ 4 _ _ _ _ (heap_set_same _ _ 3 _ _ _ _ (heap_set_same _ _ 2 _ _ _ _ (heap_set_same _ _ 1 _ _ _ _ (heap_set_same _ _ 0 _ _ _ _ H7.out.2.2.2))))
             generalize ((((w7.setCell ⟨w.heap.size, 0, none⟩ (.int .i64 y.rule)).setCell ⟨w.heap.size, 1, none⟩ (.int .i64 at')).setCell ⟨w.heap.size, 2, none⟩ (.int .i64 line)).setCell ⟨w.heap.size, 3, none⟩ (.int .i64 col)).setCell ⟨w.heap.size, 4, none⟩ (.string (buf2.extract 0 long)) = wR at hgR hrR ⊢; have z0 := cell_of _ _ 0 _ _ _ hrR; have z1 := cell_of _ _ 1 _ _ _ hrR; have z2 := cell_of _ _ 2 _ _ _ hrR; have z3 := cell_of _ _ 3 _ _ _ hrR; have z4 := cell_of _ _ 4 _ _ _ hrR; simp only [List.getElem?_toArray, List.getElem?_cons_zero, List.getElem?_cons_succ] at z0 z1 z2 z3 z4
             have hReq : R = (.tok y.rule long, buf2, why2, S2) := by
              have h := HRES.out; rw [if_neg hC, if_neg (by rintro (h9 | h9); exact hw0 h9.2; exact hw0 h9.2.1), if_neg (by rintro (h9 | h9 | h9); exact hs h9.1; (rw [HF.out] at h9; exact absurd h9.2.2 (by decide)); omega), if_pos hr] at h; rw [← h, HLO.out]
             refine jump_ret ?_; refine bodyPost_ret (v := .tuple #[.agg #[.int .i64 y.rule, .int .i64 at', .int .i64 line, .int .i64 col, .string (buf2.extract 0 long)], .nilIface]) (by simp [results, Tryz.results25, go_sem, z0, z1, z2, z3, z4]) rfl ?_; rw [hReq]; have hfin := HX.out.1.tok H7.out.2.2.1 H7.out.1 hle H7.out.2.1; have hpab : ∀ x, x = w.heap.size → (Value.slice (some pa) (buf2.size - long) (cap - long)).ownBlock ≠ some x := fun x hx e => by
              have h8 := hfin.2.new x e
              rcases h8 with h8 | h8
              · exact HST.out.own.2 (by rw [← hx]; exact h8)
              · omega
             exact ⟨rfl, _, hfin.1.grown hgR (by omega) (by omega) (hpab _ rfl), (HX.out.2.1.trans hfin.2).grown hgR (Nat.le_refl _)⟩
          · go_upto_region 16 with (fail)
            obtain ⟨g, off, rfl⟩ : ∃ g off, ao = some (⟨g, off, none⟩ : Addr) := by
             rcases H3.out.1.buf with ⟨e, h0⟩ | ⟨g, off, c', cells, e, _⟩
             · omega
             · cases e; exact ⟨g, off, rfl⟩
            have hgb : g ≠ bs := (H3.out.1.own g rfl).2; go_upto_region 20 with (fail)
            obtain ⟨wX, hwX⟩ : ∃ wX, wX = w3 := ⟨_, rfl⟩; obtain ⟨long, hlo⟩ : ∃ long, long = y.long := ⟨_, rfl⟩; have hxr : RunAt wX (w.heap.size + 1) ⟨y.set, y.alive, long, y.rule⟩ := by rw [hwX, hlo]; exact H3.out.2.2.2.1
            have HX : Hid (ScSt B wX bs bt sb C buf2 why2 0 at' line col S2 (.slice (some ⟨g, off, none⟩) buf2.size cap) ∧ Keep bs sb bv (.slice (some ⟨g, off, none⟩) buf2.size cap) w wX ∧ wX.heap[w.heap.size]? = some (.cells #[.int .i64 0, .int .i64 0, .int .i64 0, .int .i64 0, .string ⟨#[]⟩] 28 (0, 0)) ∧ RunAt wX (w.heap.size + 1) ⟨y.set, y.alive, long, y.rule⟩) := Lib.hid ⟨by rw [hwX]; exact H3.out.1, by rw [hwX]; exact H3.out.2.1, by rw [hwX]; exact H3.out.2.2.1, hxr⟩; rw [← hwX]; have hle : long ≤ buf2.size := by have h8 := HYY.out.2.2; have h9 := HYY.out.1.1; omega
            have HLO := Lib.hid hlo; clear hlo hwX; have hbi : buf2.size ≤ cap ∧ g < wX.heap.size ∧ ∀ i, i < buf2.size → wX.cell? ⟨g, off + i, none⟩ = some (.int .u8 (byt buf2 i)) := by
             rcases HX.out.1.buf.is with ⟨e, h0⟩ | ⟨g', off', c', e, h1, h2, h3⟩
             · cases e
             · cases e; exact ⟨h1, h2, h3⟩
            have htok := token_any buf2 hsz6 ⟨y.set, y.alive, long, y.rule⟩ wX bs bt g off cap _ _ _ C at' line col HX.out.1.sc hbi.1 hbi.2.1 hgb hbi.2.2 hle HNUM.out.1 HNUM.out.2.1 HNUM.out.2.2.1; have HTOK := Lib.hid htok; obtain ⟨c0, c1, c2, c3⟩ := hxr.cells; have lxX := lt_of_some hxr; have lqX := lt_of_some HX.out.2.2.1; clear htok hbi hxr
            go_wp2_with (first | (go_at_call 41; refine (HTOK.out).mono ?_; rintro e w7 ⟨rfl, hg7, pa, hpa, hsc7⟩; have hr7 := (hg7.block w.heap.size lqX (fun e => by injection e with e; omega)).trans HX.out.2.2.1; have q0 := cell_of _ _ 0 _ _ _ hr7; have q1 := cell_of _ _ 1 _ _ _ hr7; have q2 := cell_of _ _ 2 _ _ _ hr7; have q3 := cell_of _ _ 3 _ _ _ hr7; have q4 := cell_of _ _ 4 _ _ _ hr7; simp only [List.getElem?_toArray, List.getElem?_cons_zero, List.getElem?_cons_succ] at q0 q1 q2 q3 q4; have r0 := free_of _ _ 0 _ _ hr7; have r1 := free_of _ _ 1 _ _ hr7; have r2 := free_of _ _ 2 _ _ hr7; have r3 := free_of _ _ 3 _ _ hr7; have r4 := free_of _ _ 4 _ _ hr7; have l7 := lt_of_some hr7; have H7 := Lib.hid (And.intro hg7 (And.intro hpa (And.intro hsc7 hr7))); clear hg7 hpa hsc7 hr7))
            have hgR : w7.grownBy (((((w7.setCell ⟨w.heap.size, 0, none⟩ (.int .i64 y.rule)).setCell ⟨w.heap.size, 1, none⟩ (.int .i64 at')).setCell ⟨w.heap.size, 2, none⟩ (.int .i64 line)).setCell ⟨w.heap.size, 3, none⟩ (.int .i64 col)).setCell ⟨w.heap.size, 4, none⟩ (.string (buf2.extract 0 long))) (some w.heap.size) :=
             grown_trans (grown_trans (grown_trans (grown_trans (grown_set _ _ 0 _) (grown_set _ _ 1 _)) (grown_set _ _ 2 _)) (grown_set _ _ 3 _)) (grown_set _ _ 4 _)
            have hrR : (((((w7.setCell ⟨w.heap.size, 0, none⟩ (.int .i64 y.rule)).setCell ⟨w.heap.size, 1, none⟩ (.int .i64 at')).setCell ⟨w.heap.size, 2, none⟩ (.int .i64 line)).setCell ⟨w.heap.size, 3, none⟩ (.int .i64 col)).setCell ⟨w.heap.size, 4, none⟩ (.string (buf2.extract 0 long))).heap[w.heap.size]? = some (.cells #[.int .i64 y.rule, .int .i64 at', .int .i64 line, .int .i64 col, .string (buf2.extract 0 long)] 28 (0, 0)) :=
             heap_set_same _ _ 4 _ _ _ _ (heap_set_same _ _ 3 _ _ _ _ (heap_set_same _ _ 2 _ _ _ _ (heap_set_same _ _ 1 _ _ _ _ (heap_set_same _ _ 0 _ _ _ _ H7.out.2.2.2))))
            generalize ((((w7.setCell ⟨w.heap.size, 0, none⟩ (.int .i64 y.rule)).setCell ⟨w.heap.size, 1, none⟩ (.int .i64 at')).setCell ⟨w.heap.size, 2, none⟩ (.int .i64 line)).setCell ⟨w.heap.size, 3, none⟩ (.int .i64 col)).setCell ⟨w.heap.size, 4, none⟩ (.string (buf2.extract 0 long)) = wR at hgR hrR ⊢; have z0 := cell_of _ _ 0 _ _ _ hrR; have z1 := cell_of _ _ 1 _ _ _ hrR; have z2 := cell_of _ _ 2 _ _ _ hrR; have z3 := cell_of _ _ 3 _ _ _ hrR; have z4 := cell_of _ _ 4 _ _ _ hrR; simp only [List.getElem?_toArray, List.getElem?_cons_zero, List.getElem?_cons_succ] at z0 z1 z2 z3 z4
            have hReq : R = (.tok y.rule long, buf2, why2, S2) := by
             have h := HRES.out; rw [if_neg hC, if_neg (by rintro (h9 | h9); exact hw0 h9.2; exact hw0 h9.2.1), if_neg (by rintro (h9 | h9 | h9); exact hs h9.1; omega; omega), if_neg (by omega : ¬ y.rule < 0)] at h; rw [← h, HLO.out]
            refine jump_ret ?_; refine bodyPost_ret (v := .tuple #[.agg #[.int .i64 y.rule, .int .i64 at', .int .i64 line, .int .i64 col, .string (buf2.extract 0 long)], .nilIface]) (by simp [results, Tryz.results25, go_sem, z0, z1, z2, z3, z4]) rfl ?_; rw [hReq]; have hfin := HX.out.1.tok H7.out.2.2.1 H7.out.1 hle H7.out.2.1; have hpab : ∀ x, x = w.heap.size → (Value.slice (some pa) (buf2.size - long) (cap - long)).ownBlock ≠ some x := fun x hx e => by
             have h8 := hfin.2.new x e
             rcases h8 with h8 | h8
             · exact HST.out.own.2 (by rw [← hx]; exact h8)
             · omega
            exact ⟨rfl, _, hfin.1.grown hgR (by omega) (by omega) (hpab _ rfl), (HX.out.2.1.trans hfin.2).grown hgR (Nat.le_refl _)⟩
 case first =>
  intro hpass; rw [errV_zero] at c5; have lbs := hlt.2.2.1; go_wp2_with (fail)
  go_step3
  rename_i qq kk hk; have hb0 : Below w.heap.size w ((w.alloc (.cells #[.int .i64 0, .int .i64 0, .int .i64 0, .int .i64 0, .string ⟨#[]⟩] 28)).alloc (.cells #[.int .i64 0, .int .i64 0, .int .i64 0, .int .i64 (-1)] 97)) := ((Below.refl _ w).alloc (Nat.le_refl _) _).alloc (by simp) _
  have hrb : ((w.alloc (.cells #[.int .i64 0, .int .i64 0, .int .i64 0, .int .i64 0, .string ⟨#[]⟩] 28)).alloc (.cells #[.int .i64 0, .int .i64 0, .int .i64 0, .int .i64 (-1)] 97)).heap[w.heap.size]? = some (.cells #[.int .i64 0, .int .i64 0, .int .i64 0, .int .i64 0, .string ⟨#[]⟩] 28 (0, 0)) := (heap_old _ _ _ (by simp)).trans (heap_new _ _ _ rfl); have hxb : RunAt ((w.alloc (.cells #[.int .i64 0, .int .i64 0, .int .i64 0, .int .i64 0, .string ⟨#[]⟩] 28)).alloc (.cells #[.int .i64 0, .int .i64 0, .int .i64 0, .int .i64 (-1)] 97)) (w.heap.size + 1) run0 := heap_new _ _ _ (by simp)
  have hbl := H.out.1.buf.lt; have hJ : NxSt T C B bs bt sb w.heap.size (w.heap.size + 1) at' line col R w bv (C + 2) buf why S bv run0 ((w.alloc (.cells #[.int .i64 0, .int .i64 0, .int .i64 0, .int .i64 0, .string ⟨#[]⟩] 28)).alloc (.cells #[.int .i64 0, .int .i64 0, .int .i64 0, .int .i64 (-1)] 97)) :=
   ⟨H.out.1.below hb0, Keep.of_below hb0, hxb, hrb, ⟨fun e => by have := hbl _ e; omega, fun e => by have := hbl _ e; omega⟩, Nat.zero_le _, HT.out.some', Nat.le_refl _, HNUM.out.2.2.2.1, by split <;> omega, HR.out.symm⟩
  simp only [Exit.then]; refine hk _ _ ?_; refine hpass (C + 2) _ _ ⟨_, buf, why, S, bv, run0, rfl, ?_, hJ⟩; exact ⟨rfl, rfl, rfl, rfl, rfl⟩
end Go.Proofs.YtghpmhllpaheiaaGreatDoor
