/-
  Part of the proof: Bl3, Bk1, Bk2. No condition beyond those in the statements.
-/
import Derived.Test.YtghpmhllpaheiaaGreatDoorK31
import Derived.Test.YtghpmhllpaheiaaGreatDoorK32
import Derived.Test.YtghpmhllpaheiaaGreatDoorK33
import Derived.Test.YtghpmhllpaheiaaGreatDoorK28
set_option linter.unusedVariables false
set_option linter.unusedSimpArgs false
set_option maxRecDepth 100000
set_option maxHeartbeats 40000000
namespace Go.Proofs.YtghpmhllpaheiaaGreatDoor
section
open Go.RowKit Go.Lib
def tailBy (T : Tab) : List Nat := putI T.bound ++ putI (sumV (putL (encN T)))
def cutRest (T : Tab) (i : Nat) : List Nat := putL (T.cuts.drop i) ++ (putL (rowsN T.rule T.goes) ++ tailBy T)
def rowRest (T : Tab) (i : Nat) : List Nat := putL (((T.rule.zip T.goes).drop i).flatMap fun p => p.1 :: p.2) ++ tailBy T
def cellRest (row : List Int) (k : Nat) (r : List Nat) : List Nat := putL (row.drop k) ++ r
theorem putL_cons (n : Int) (l : List Int) : putL (n :: l) = putI n ++ putL l := rfl
theorem encB_head (T : Tab) : encB T = putI (T.cuts.length : Int) ++ (putI (T.goes.length : Int) ++ cutRest T 0) := by
 unfold encB cutRest tailBy; generalize sumV (putL (encN T)) = z; unfold encN headN; rw [putL_app, putL_app, putL_app, putL_cons, putL_one, putL_one, List.drop_zero]; simp only [List.append_assoc]
theorem drop_get {α : Type} {l : List α} {i : Nat} {x : α} (h : l[i]? = some x) : l.drop i = x :: l.drop (i + 1) := by
 obtain ⟨h1, rfl⟩ := List.getElem?_eq_some_iff.1 h; exact List.drop_eq_getElem_cons h1
theorem cutRest_succ {T : Tab} {i : Nat} {x : Int} (h : T.cuts[i]? = some x) : cutRest T i = putI x ++ cutRest T (i + 1) := by
 unfold cutRest; rw [drop_get h, putL_cons, List.append_assoc]
theorem cutRest_all (T : Tab) : cutRest T T.cuts.length = rowRest T 0 := by
 unfold cutRest rowRest; rw [List.drop_length, List.drop_zero]; rfl
theorem rowRest_succ {T : Tab} {i : Nat} {r : Int} {row : List Int} (h1 : T.rule[i]? = some r) (h2 : T.goes[i]? = some row) : rowRest T i = putI r ++ cellRest row 0 (rowRest T (i + 1)) := by
 have hz : (T.rule.zip T.goes)[i]? = some (r, row) := by
  rw [List.getElem?_zip_eq_some]; exact ⟨h1, h2⟩
 unfold rowRest cellRest; rw [drop_get hz, List.flatMap_cons, List.drop_zero, List.cons_append, putL_cons, putL_app, List.append_assoc, List.append_assoc]
theorem cellRest_succ {row : List Int} {k : Nat} {x : Int} (h : row[k]? = some x) (r : List Nat) : cellRest row k r = putI x ++ cellRest row (k + 1) r := by
 unfold cellRest; rw [drop_get h, putL_cons, List.append_assoc]
theorem cellRest_all (row : List Int) (r : List Nat) : cellRest row row.length r = r := by
 unfold cellRest; rw [List.drop_length]; rfl
def Suf (T : Tab) (l : List Nat) : Prop := ∃ p, p ++ l = encB T
theorem Suf.drop {T : Tab} {a b : List Nat} (h : Suf T (a ++ b)) : Suf T b := by
 obtain ⟨p, hp⟩ := h; exact ⟨p ++ a, by rw [List.append_assoc]; exact hp⟩
theorem sum_small (l : List Nat) : sumV l < 65536 := by
 have hsum := sumP_lt l (1, 0) (by decide); unfold sumV; omega
theorem Suf.lt {T : Tab} (hE : EncOk T) {l : List Nat} (h : Suf T l) : ∀ x ∈ l, x < 256 := by
 obtain ⟨p, hp⟩ := h; intro x hx; have : x ∈ encB T := by rw [← hp]; exact List.mem_append_right _ hx
 rcases List.mem_append.1 this with hx | hx
 · exact putL_lt hE.nums x hx
 · have := sum_small (putL (encN T))
   exact putU_lt 5 _ (by omega) x hx
theorem take_ld {w0 w : World} {rb tb : Nat} {tag : Nat → Nat} {cuts rule : List Int} {goes : List (List Int)} {vc vr vg : Value} {gvs : List Value} {T : Tab} (hE : EncOk T) {l l' : List Nat} {n lo hi : Int}
 (h : LdSt w0 rb tb tag cuts rule goes vc vr vg gvs (strOf l) w) (hs : Suf T l) (hl : l = putI n ++ l') (hn : n ∈ encN T) (hlo : lo ≤ n) (hhi : n ≤ hi) :
 Calls Tryz.prog 46 #[.pointer (some ⟨rb, 0, none⟩), .int .i64 lo, .int .i64 hi] w fun e w' => e = .returned (.int .i64 n) ∧ LdSt w0 rb tb tag cuts rule goes vc vr vg gvs (strOf l') w' ∧ w.grownBy w' (some rb) := by
 subst hl; refine (take_put rb n lo hi l' w h.hr (hE.nums n hn) (hs.drop.lt hE) hlo hhi).mono ?_; rintro e w' ⟨rfl, rfl⟩; exact ⟨rfl, h.taken _, grown_set _ _ _ _⟩
theorem LdSt.start {w w' : World} {l : List Nat} (hp : 0 < w.heap.size) (hb : Below w.heap.size w w') (hr : w'.heap[w.heap.size]? = some (.cells #[.string (strOf l), .bool true] 113 (0, 0)))
 (ht : w'.heap[w.heap.size + 1]? = some (.cells #[.slice none 0 0, .slice none 0 0, .slice none 0 0, .int .i64 0] 76 (0, 0))) :
 LdSt w w.heap.size (w.heap.size + 1) (tagSet (tagSet (fun _ => 0) w.heap.size 2) (w.heap.size + 1) 1) [] [] [] (.slice none 0 0) (.slice none 0 0) (.slice none 0 0) [] (strOf l) w' := by
 refine ⟨hp, hb, fun g hg => ?_, hr, ht, World.ownsRow_nil _ _ _ _, World.ownsRow_nil _ _ _ _, World.ownsRow_nil _ _ _ _, fun i row h => by simp at h, tagSet_new _ _ _, (tagSet_old (by omega)).trans (tagSet_new _ _ _), fun g h => (by cases h), fun g h => (by cases h), fun g h => (by cases h)⟩; by_cases e : g = w.heap.size + 1
 · omega
 · rw [tagSet_old e] at hg
   by_cases e2 : g = w.heap.size
   · omega
   · rw [tagSet_old e2] at hg
     exact absurd rfl hg
structure LoadOk (T : Tab) (R : Nat) : Prop where
 wf : WfT T R
 enc : EncOk T
 whole : WholeOk T
 r8 : R ≤ 8
 c6 : 6 ≤ T.cuts.length ∧ T.cuts.length ≤ 7686
 g1 : T.goes.length ≤ 201
theorem LoadOk.cut {T : Tab} {R : Nat} (h : LoadOk T R) {i : Nat} {x : Int} (hx : T.cuts[i]? = some x) : x ∈ encN T ∧ 0 ≤ x ∧ x ≤ 1114111 := by
 have hm := List.mem_of_getElem? hx; refine ⟨by simp [encN, hm], ?_, h.wf.top x hm⟩; obtain ⟨h1, h2⟩ := List.getElem?_eq_some_iff.1 hx; have h0 : T.cuts[0]? = some 0 := by have := h.wf.head; rwa [List.head?_eq_getElem?] at this
 rcases Nat.eq_zero_or_pos i with rfl | hi
 · rw [h0] at hx; cases hx; decide
 · exact Int.le_of_lt (rise_getq' h.wf.rise h0 hx hi)
theorem LoadOk.row {T : Tab} {R : Nat} (h : LoadOk T R) {i : Nat} {r : Int} {row : List Int} (h1 : T.rule[i]? = some r) (h2 : T.goes[i]? = some row) :
 r ∈ encN T ∧ -1 ≤ r ∧ r ≤ 7 ∧ row.length = T.cuts.length ∧ ∀ (k : Nat) (x : Int), row[k]? = some x → x ∈ encN T ∧ -1 ≤ x ∧ x ≤ (T.goes.length : Int) - 1 := by
 have hs : ∀ x ∈ r :: row, x ∈ encN T := fun x hx => rowsT_mem (j := i + 1) (by rw [rowsT_succ h1 h2]; exact List.mem_append_right _ hx); have hr := h.wf.ruleR r (List.mem_of_getElem? h1); have h8 := h.r8; refine ⟨hs r (by simp), hr.1, by omega, h.wf.rows row (List.mem_of_getElem? h2), fun k x hx => ⟨hs x (by simp [List.mem_of_getElem? hx]), ?_⟩⟩; have := h.wf.cells row (List.mem_of_getElem? h2) x (List.mem_of_getElem? hx); omega
theorem load_any (T : Tab) (R : Nat) (hL : LoadOk T R) (f : Nat) (best2 : Int) (b2 : BSt) (hbl : boundLoop ⟨T.cuts, T.rule, T.goes, 0⟩ f T.goes.length 0 0 ⟨List.replicate T.goes.length 0, List.replicate T.goes.length 0, false⟩ = some (best2, b2))
 (hfin : ∀ j, b2.far.getD j 0 ≤ 1000000) (hTb : T.bound = if b2.round then -1 else best2 + 1) (w : World) (hG : Glob ≤ w.heap.size) (hW : Wid w) :
 Calls Tryz.prog 29 #[.string (strOf (encB T))] w (MakeO T w) := by
 have HL := hid hL; have HB := hid (And.intro hbl (And.intro hfin hTb)); have HG := hid (And.intro hG hW); have hp : 0 < w.heap.size := by unfold Glob at hG; omega
 have HP := hid hp; have hgl : T.goes.length ≤ 201 := hL.g1; have hcl : 6 ≤ T.cuts.length ∧ T.cuts.length ≤ 7686 := hL.c6; have hgp : 0 < T.goes.length := hL.wf.some'; have hsuf : Suf T (encB T) := ⟨[], rfl⟩; have HSUF := hid hsuf; have hh := encB_head T; have hs1 : Suf T (putI (T.goes.length : Int) ++ cutRest T 0) := Suf.drop (by rw [← hh]; exact hsuf)
 have ht1 := take_put w.heap.size (T.cuts.length : Int) 6 7686 (putI (T.goes.length : Int) ++ cutRest T 0) (w.alloc (.cells #[.string (strOf (encB T)), .bool true] 113)) (by rw [← hh]; exact heap_new _ _ _ rfl) (by omega) (hs1.lt hL.enc) (by omega) (by omega); have ht2 := take_put w.heap.size (T.goes.length : Int) 1 201 (cutRest T 0) (w.alloc (.cells #[.string (strOf (putI (T.goes.length : Int) ++ cutRest T 0)), .bool true] 113)) (heap_new _ _ _ rfl) (by omega) (hs1.drop.lt hL.enc) (by omega) (by omega); have HT1 := hid ht1; have HT2 := hid ht2; have HS := hid hs1.drop
 clear hL hbl hfin hTb hG hW hp hsuf hh hs1 ht1 ht2; generalize hEB : encB T = EB at HT1 HT2 HSUF ⊢; have HEB := hid hEB; clear hEB; go_enter Tryz.func29, Tryz.ntmps29; go_upto_region 3 with (first
  | (have H0 := HT1.out; clear HT1; go_at_call 46; refine H0.mono ?_; rintro e w1 ⟨rfl, rfl⟩; clear H0)
  | (have H0 := HT2.out; clear HT2; go_at_call 46; refine H0.mono ?_; rintro e w1 ⟨rfl, rfl⟩; clear H0))
 go_upto_region 4 with (fail)
 have hb1 := (Below.refl w.heap.size w).alloc (Nat.le_refl _) (.cells #[.string (strOf (cutRest T 0)), .bool true] 113); have hb2 := hb1.alloc hb1.size (.cells #[.slice none 0 0, .slice none 0 0, .slice none 0 0, .int .i64 0] 76); have hst := LdSt.start (w := w) (l := cutRest T 0) HP.out hb2 ((heap_old _ _ _ (by simp)).trans (heap_new _ _ _ rfl)) (heap_new _ _ _ (by simp)); generalize ((w.alloc (.cells #[.string (strOf (cutRest T 0)), .bool true] 113)).alloc (.cells #[.slice none 0 0, .slice none 0 0, .slice none 0 0, .int .i64 0] 76)) = w4 at hst ⊢
 generalize tagSet (tagSet (fun _ => 0) w.heap.size 2) (w.heap.size + 1) 1 = tag4 at hst; generalize w.heap.size + 1 = tb at hst ⊢; generalize w.heap.size = rb at hst ⊢; have H4 := hid hst; clear hst hb1 hb2; go_wp2_with (fail); go_loopw [8, 9] (fun s8 s9 wr => ∃ (i : Nat) (tag : Nat → Nat) (ao : Option Addr) (cap : Nat), s8 = .int .i64 i ∧ i ≤ T.cuts.length ∧ LdSt w rb tb tag (T.cuts.take i) [] [] (.slice ao (T.cuts.take i).length cap) (.slice none 0 0) (.slice none 0 0) [] (strOf (cutRest T i)) wr ∧ Suf T (cutRest T i)) (fun s8 _ _ => T.cuts.length - (RowKit.intOf s8).toNat)
 case atStart => exact ⟨0, tag4, none, 0, rfl, Nat.zero_le _, H4.out, HS.out⟩
 case round =>
  obtain ⟨i, tag, ao, cap, rfl, hi, hst, hsf⟩ := hrel; have kr := hst.hr; have kt := hst.ht; have r1 := cell_of _ _ 1 _ _ _ kr; simp only [List.getElem?_toArray, List.getElem?_cons_zero, List.getElem?_cons_succ] at r1; have lrb := lt_of_some kr; have ltb := lt_of_some kt; by_cases hlt : i < T.cuts.length
  · have hz : (i : Int) < (T.cuts.length : Int) := by omega
    obtain ⟨x, hx⟩ : ∃ x, T.cuts[i]? = some x := ⟨_, List.getElem?_eq_getElem hlt⟩; obtain ⟨hxe, hx0, hx1⟩ := HL.out.cut hx; have hrs := cutRest_succ hx; rw [hrs] at hsf; have htk := take_ld HL.out.enc (lo := 0) (hi := 1114111) hst (by rw [hrs]; exact hsf) hrs hxe hx0 hx1; have htake : T.cuts.take (i + 1) = T.cuts.take i ++ [x] := take_succ_app hx; have hpl : (T.cuts.take i).length = i := by rw [List.length_take]; omega
    have HTK := hid htk; have HX := hid (And.intro hx (And.intro hsf.drop htake)); have wx : IntKind.i32.wrap x = x := by rw [IntKind.wrap_i32]; omega
    have w2' : IntKind.i64.wrap ((i : Int) + 1) = (i : Int) + 1 := IntWalk.i64_in _ (by omega); have hprev : ∀ j p, j + 1 = i → T.cuts[j]? = some p → p < x := fun j p hj hp => rise_getq' HL.out.wf.rise hp hx (by omega); have HPV := hid hprev; clear hprev htk hsf hx hrs htake hst kr kt; generalize hpre : T.cuts.take i = pre at HTK HX hpl ⊢; have HPRE := hid hpre; have HPL := hid hpl; have hpn : pre.length + 1 ≤ 1000000000 := by omega
    clear hpre hpl; go_upto_region 8 with (first | (have H0 := HTK.out; clear HTK; go_at_call 46; refine H0.mono ?_; clear H0; rintro e w5 ⟨rfl, hst5, hg5⟩; have H5 := hid hst5; clear hst5 hg5))
    by_cases hi0 : i = 0
    · have y1 : ¬ (0 : Int) < (i : Int) := by omega
      have y2 : ((i : Int) == 0) = true := by simp; omega
      have y3 : (x == 0) = true := by
       have h0 : T.cuts[0]? = some 0 := by have := HL.out.wf.head; rwa [List.head?_eq_getElem?] at this
       have := HX.out.1; rw [hi0, h0] at this; cases this; rfl
      have HI0 := hid hi0; clear hi0; go_upto_region 10 with (fail)
      have t0 := cell_of _ _ 0 _ _ _ H5.out.ht; simp only [List.getElem?_toArray, List.getElem?_cons_zero] at t0; have ltb5 := lt_of_some H5.out.ht; have hs9 : ∀ w9 ob, (w5.alloc ob).grownBy w9 (Value.slice ao pre.length cap).ownBlock → w9.frozen? ⟨tb, 0, none⟩ = false ∧ (∃ u, w9.cell? ⟨tb, 0, none⟩ = some u) ∧ tb < w9.heap.size := fun w9 ob hg => by
       obtain ⟨k1, k2, k3⟩ := cell_kept (off := 0) H5.out.ht (fun e => by have h1 := H5.out.t3 tb e; rw [H5.out.t1] at h1; cases h1) hg; exact ⟨k2, ⟨_, k1⟩, k3⟩
      have HS9 := hid hs9; clear hs9; go_wp2_with (at_builtin; refine wpList_append_sl _ rfl _ _ rfl elemRune _ _ _ rfl (by exact H5.out.fCuts.alloc _) ⟨w5.heap.size, 0, none⟩ 1 1 [.int .i32 x] rfl rfl (cells_new _ #[.int .i32 x] _ _ rfl) (by simp [Value.oneCell']) (by decide) hpn (by decide) ?_; intro v9 w9 hrow9 hgr9 hbl9; obtain ⟨g9, cap9, rfl⟩ := row_succ hrow9; obtain ⟨zf, ⟨u, zu⟩, zl⟩ := HS9.out w9 _ hgr9; have H9 := hid (And.intro hrow9 (And.intro hgr9 hbl9)); clear hrow9 hgr9 hbl9); go_roundw
      case rel =>
       have h := H5.out.appCuts x _ _ H9.out.1 H9.out.2.1 H9.out.2.2; have e2 : (T.cuts.take (i + 1)).length = pre.length + 1 := by rw [HX.out.2.2]; simp
       exact ⟨i + 1, _, some ⟨g9, 0, none⟩, cap9, by go_num, by omega, by rw [e2, HX.out.2.2]; exact h, HX.out.2.1⟩
      case measure => (simp [RowKit.intOf] <;> omega)
    · obtain ⟨j, hj⟩ : ∃ j, j + 1 = i := ⟨i - 1, by omega⟩
      obtain ⟨pv, hpv⟩ : ∃ pv, T.cuts[j]? = some pv := ⟨_, List.getElem?_eq_getElem (by omega)⟩; have hpvx := HPV.out j pv hj hpv; obtain ⟨g, rfl⟩ : ∃ g, ao = some ⟨g, 0, none⟩ := by
       have := HPL.out
       rcases H5.out.fCuts.2 with ⟨e9, h9⟩ | ⟨g, c9, cur9, e9, _⟩
       · omega
       · simp only [Value.slice.injEq] at e9
         exact ⟨g, e9.1⟩
      have hcp : w5.cell? ⟨g, i - 1, none⟩ = some (.int .i32 pv) := row_cell H5.out.fCuts (i - 1) _ (by
       rw [show i - 1 = j by omega]; have : pre[j]? = some pv := by rw [← HPRE.out, List.getElem?_take, if_pos (by omega)]; exact hpv
       unfold runes; rw [List.getElem?_map, this]; rfl)
      have lg : g < w5.heap.size := (H5.out.fCuts.lt g rfl).2; have y1 : (0 : Int) < (i : Int) := by omega
      have y2 : ((i : Int) == 0) = false := by simp; omega
      have y3 : ¬ x ≤ pv := by omega
      have q2 : (i : Int) - 1 < (pre.length : Int) := by have := HPL.out; omega
      have q3 : (0 : Int) ≤ (i : Int) - 1 := by omega
      have HJ := hid hj; clear hj; have t0 := cell_of _ _ 0 _ _ _ H5.out.ht; simp only [List.getElem?_toArray, List.getElem?_cons_zero] at t0; have ltb5 := lt_of_some H5.out.ht; clear hpv; go_upto_region 10 with (fail)
      clear t0 ltb5; have t0 := cell_of _ _ 0 _ _ _ H5.out.ht; simp only [List.getElem?_toArray, List.getElem?_cons_zero] at t0; have ltb5 := lt_of_some H5.out.ht; have hs9 : ∀ w9 ob, (w5.alloc ob).grownBy w9 (Value.slice (some ⟨g, 0, none⟩) pre.length cap).ownBlock → w9.frozen? ⟨tb, 0, none⟩ = false ∧ (∃ u, w9.cell? ⟨tb, 0, none⟩ = some u) ∧ tb < w9.heap.size := fun w9 ob hg => by
       obtain ⟨k1, k2, k3⟩ := cell_kept (off := 0) H5.out.ht (fun e => by have h1 := H5.out.t3 tb e; rw [H5.out.t1] at h1; cases h1) hg; exact ⟨k2, ⟨_, k1⟩, k3⟩
      have HS9 := hid hs9; clear hs9; go_wp2_with (at_builtin; refine wpList_append_sl _ rfl _ _ rfl elemRune _ _ _ rfl (by exact H5.out.fCuts.alloc _) ⟨w5.heap.size, 0, none⟩ 1 1 [.int .i32 x] rfl rfl (cells_new _ #[.int .i32 x] _ _ rfl) (by simp [Value.oneCell']) (by decide) hpn (by decide) ?_; intro v9 w9 hrow9 hgr9 hbl9; obtain ⟨g9, cap9, rfl⟩ := row_succ hrow9; obtain ⟨zf, ⟨u, zu⟩, zl⟩ := HS9.out w9 _ hgr9; have H9 := hid (And.intro hrow9 (And.intro hgr9 hbl9)); clear hrow9 hgr9 hbl9); go_roundw
      case rel =>
       have h := H5.out.appCuts x _ _ H9.out.1 H9.out.2.1 H9.out.2.2; have e2 : (T.cuts.take (i + 1)).length = pre.length + 1 := by rw [HX.out.2.2]; simp
       exact ⟨i + 1, _, some ⟨g9, 0, none⟩, cap9, by go_num, by omega, by rw [e2, HX.out.2.2]; exact h, HX.out.2.1⟩
      case measure => (simp [RowKit.intOf] <;> omega)
  · obtain rfl : i = T.cuts.length := by omega
    have hz : ¬ (T.cuts.length : Int) < (T.cuts.length : Int) := by omega
    rw [List.take_length] at hst; rw [cutRest_all] at hst hsf; obtain ⟨gc, rfl⟩ : ∃ g, ao = some ⟨g, 0, none⟩ := by
     rcases hst.fCuts.2 with ⟨e9, h9⟩ | ⟨g, c9, cur9, e9, _⟩
     · omega
     · simp only [Value.slice.injEq] at e9
       exact ⟨g, e9.1⟩
    have H5 := hid (And.intro hst hsf); clear hst hsf kr kt; go_upto_region 12 with (fail)
    go_loopw [10, 11, 12] (fun s10 s11 s12 wr => ∃ (i : Nat) (tag : Nat → Nat) (ar ag : Option Addr) (cr cg : Nat) (gvs : List Value), s10 = .int .i64 i ∧ i ≤ T.goes.length ∧ LdSt w rb tb tag T.cuts (T.rule.take i) (T.goes.take i) (.slice (some ⟨gc, 0, none⟩) T.cuts.length cap) (.slice ar (T.rule.take i).length cr) (.slice ag (T.goes.take i).length cg) gvs (strOf (rowRest T i)) wr ∧ Suf T (rowRest T i)) (fun s10 _ _ _ => T.goes.length - (RowKit.intOf s10).toNat)
    case atStart => exact ⟨0, tag, none, none, 0, 0, [], rfl, Nat.zero_le _, H5.out.1, H5.out.2⟩
    case round =>
     obtain ⟨i, tag, ar, ag, cr, cg, gvs, rfl, hi, hst, hsf⟩ := hrel; have kr := hst.hr; have kt := hst.ht; have r1 := cell_of _ _ 1 _ _ _ kr; simp only [List.getElem?_toArray, List.getElem?_cons_zero, List.getElem?_cons_succ] at r1; have lrb := lt_of_some kr; have ltb := lt_of_some kt; by_cases hlt : i < T.goes.length
     · have hz : (i : Int) < (T.goes.length : Int) := by omega
       obtain ⟨row, hrow⟩ : ∃ x, T.goes[i]? = some x := ⟨_, List.getElem?_eq_getElem hlt⟩; obtain ⟨r, hr⟩ : ∃ x, T.rule[i]? = some x := ⟨_, List.getElem?_eq_getElem (by rw [HL.out.wf.rules]; exact hlt)⟩; obtain ⟨hre, hr0, hr1, hrl, hcells⟩ := HL.out.row hr hrow; have hrs := rowRest_succ hr hrow; have hsf0 := hsf; rw [hrs] at hsf; have htk := take_ld HL.out.enc (lo := -1) (hi := 7) (hst.later (Below.refl _ wr).drew) hsf0 hrs hre hr0 hr1; have htr : T.rule.take (i + 1) = T.rule.take i ++ [r] := take_succ_app hr; have htg : T.goes.take (i + 1) = T.goes.take i ++ [row] := take_succ_app hrow
       have hpl : (T.rule.take i).length = i := by rw [List.length_take, HL.out.wf.rules]; omega
       have hpg : (T.goes.take i).length = i := by rw [List.length_take]; omega
       have t1 := cell_of _ _ 1 _ _ _ kt; simp only [List.getElem?_toArray, List.getElem?_cons_zero, List.getElem?_cons_succ] at t1; have HTK := hid htk; have HX := hid (And.intro hrow (And.intro hr (And.intro hsf.drop (And.intro htr (And.intro htg (And.intro hrl hcells)))))); have HST := hid hst; have w2' : IntKind.i64.wrap ((i : Int) + 1) = (i : Int) + 1 := IntWalk.i64_in _ (by omega); clear htk hsf hsf0 hrow hr hrs htr htg hst kr kt hcells hrl; generalize hpre : T.rule.take i = pre at HTK HX HST hpl t1 ⊢; generalize hgpre : T.goes.take i = gpre at HTK HX HST hpg ⊢
       have hpn : pre.length + 1 ≤ 1000000000 := by omega
       have hgn : gpre.length + 1 ≤ 1000000000 := by omega
       have HPL := hid (And.intro hpl hpg); clear hpre hgpre hpl hpg; go_upto_region 14 with (fail)
       refine wp_region_noPanic ?_; refine wp_region_sink (fun w' => w'.cell? ⟨tb, 1, none⟩ = some (.slice ar pre.length cr)) 11 (by kernel_rfl) t1 (fun hS0 => ?_); refine sink_u 0 hS0 ?_; (try simp only [Act.put, lA, lB, lC]); refine sink_u 1 hS0 ?_; (try simp only [Act.put, lA, lB, lC]); refine sink_u 2 hS0 ?_; (try simp only [Act.put, lA, lB, lC]); refine sink_u 3 hS0 ?_; (try simp only [Act.put, lA, lB, lC]); refine sink_u 4 hS0 ?_; (try simp only [Act.put, lA, lB, lC]); refine sink_u 5 hS0 ?_; (try simp only [Act.put, lA, lB, lC]); refine sink_step 6 (by rfl) (by kernel_rfl) (fun K hK => ?_); go_simp; go_at_call 46; refine HTK.out.mono ?_; rintro e w5 ⟨rfl, hst5, hg5⟩; have t5 := cell_of _ _ 1 _ _ _ hst5.ht; simp only [List.getElem?_toArray, List.getElem?_cons_zero, List.getElem?_cons_succ] at t5; refine hK.out _ _ (fun _ => t5) ?_; clear hK K hS0; (try simp only [Act.put, lA, lB, lC]); refine sink_step 7 (by rfl) (by kernel_rfl) (fun K hK => ?_); go_simp; have hst6 := hst5.later ((Below.refl _ w5).alloc (Nat.le_refl _) (.cells #[.int .i64 r] 3))
       have t6 := cell_of _ _ 1 _ _ _ hst6.ht; simp only [List.getElem?_toArray, List.getElem?_cons_zero, List.getElem?_cons_succ] at t6; refine hK.out _ _ (fun _ => t6) ?_; clear hK K; (try simp only [Act.put, lA, lB, lC]); refine sink_step 8 (by rfl) (by kernel_rfl) (fun K hK => ?_); refine step_append_sl (by rfl) _ _ (by rfl) elemInt (.slice ar pre.length cr) pre.length (nums pre) (by rfl) (by exact (hst5.fRule.alloc _)) ⟨w5.heap.size, 0, none⟩ 1 1 [.int .i64 r] (by rfl) (by rfl) (cells_new w5 #[.int .i64 r] 3 w5.heap.size rfl) (by simp [Value.oneCell']) (by decide) hpn (by decide) ?_
       intro v9 w9 hrow9 hgr9 hbl9; obtain ⟨g9, cap9, rfl⟩ := row_succ hrow9; obtain ⟨k1, k2, k3⟩ := cell_kept (off := 1) hst5.ht (fun e => by have h1 := hst5.t4 tb e; rw [hst5.t1] at h1; cases h1) hgr9; refine hK.out _ _ (fun _ => k1) ?_; clear hK K; (try simp only [Act.put, lA, lB, lC]); refine sink_step 9 (by rfl) (by kernel_rfl) (fun K hK => ?_); go_simp; refine hK.out _ _ (fun _ => k1) ?_; clear hK K; (try simp only [Act.put, lA, lB, lC]); refine sink_step 10 (by rfl) (by kernel_rfl) (fun K hK => ?_); go_simp; refine hK.out _ _ (fun _ => k1) ?_; clear hK K
       (try simp only [Act.put, lA, lB, lC]); have hst10 := hst5.appRule r _ _ hrow9 hgr9 hbl9; have H10 := hid hst10; clear hst10 hst5 hst6 hg5 hrow9 hgr9 hbl9 t5 t6 t1; obtain ⟨u, zu⟩ : ∃ u, w9.cell? ⟨tb, 1, none⟩ = some u := ⟨_, k1⟩; clear k1; refine sink_step 11 (by rfl) (by kernel_rfl) (fun K hK => ?_); go_simp; refine hK.out _ _ (fun h => absurd rfl h) ?_; clear hK K; (try simp only [Act.put, lA, lB, lC]); refine sink_done (by kernel_rfl) ?_; refine NoPanic.normal ?_; clear zu k2 k3 r1 lrb ltb; generalize tagSet tag (w5.heap.size + 1) 4 = tag10 at H10
       generalize w9.setCell ⟨tb, 1, none⟩ (.slice (some ⟨g9, 0, none⟩) (pre.length + 1) cap9) = w10 at H10 ⊢; have hmk : ∀ w, (Instr.makeSlice 39 (.int .i64 (T.cuts.length : Int)) (.int .i64 (T.cuts.length : Int))).run Tryz.prog w = .ok (.slice (some ⟨w.heap.size, 0, none⟩) T.cuts.length T.cuts.length) (w.alloc (.cells (nums (List.replicate T.cuts.length 0)).toArray 3)) := fun w => make_ints T.cuts.length (by omega) w; go_upto_region 16 with (fail)
       have hb11 : Below w10.heap.size w10 (w10.alloc (.cells (nums (List.replicate T.cuts.length 0)).toArray 3)) := (Below.refl _ w10).alloc (Nat.le_refl _) _; have h11 := H10.out.mark hb11 w10.heap.size 7 (Nat.le_refl _) (Nat.le_refl _); have hrow11 := zeros_row (w10.alloc (.cells (nums (List.replicate T.cuts.length 0)).toArray 3)) w10.heap.size T.cuts.length (by omega) (heap_new _ _ _ rfl); have htg11 : tagSet tag10 w10.heap.size 7 w10.heap.size = 7 := tagSet_new _ _ _; generalize tagSet tag10 w10.heap.size 7 = tag11 at h11 htg11
       generalize w10.alloc (.cells (nums (List.replicate T.cuts.length 0)).toArray 3) = w11 at h11 hrow11 ⊢; generalize w10.heap.size = gb at h11 hrow11 htg11 ⊢; have H11 := hid (And.intro h11 (And.intro hrow11 htg11)); clear h11 hrow11 htg11 hb11 hmk; go_upto_region 17 with (fail)
       go_loopw [12, 94] (fun s12 s94 wr => ∃ (k : Nat), s94 = .int .i64 k ∧ k ≤ T.cuts.length ∧ LdSt w rb tb tag11 T.cuts (pre ++ [r]) gpre (.slice (some ⟨gc, 0, none⟩) T.cuts.length cap) (.slice (some ⟨g9, 0, none⟩) (pre.length + 1) cap9) (.slice ag gpre.length cg) gvs (strOf (cellRest row k (rowRest T (i + 1)))) wr ∧ Suf T (cellRest row k (rowRest T (i + 1))) ∧
        wr.ownsRow 0 3 1 (.slice (some ⟨gb, 0, none⟩) T.cuts.length T.cuts.length) T.cuts.length (nums (row.take k ++ List.replicate (T.cuts.length - k) 0))) (fun _ s94 _ => T.cuts.length - (RowKit.intOf s94).toNat)
       case atStart => exact ⟨0, rfl, Nat.zero_le _, H11.out.1, HX.out.2.2.1, by simpa using H11.out.2.1⟩
       case round =>
        obtain ⟨k, rfl, hk, hst, hsf, hrw⟩ := hrel; by_cases hkl : k < T.cuts.length
        · have hz2 : (k : Int) < (T.cuts.length : Int) := by omega
          obtain ⟨x, hx⟩ : ∃ x, row[k]? = some x := ⟨_, List.getElem?_eq_getElem (by rw [HX.out.2.2.2.2.2.1]; exact hkl)⟩; obtain ⟨hxe, hx0, hx1⟩ := HX.out.2.2.2.2.2.2 k x hx; have hrs := cellRest_succ hx (rowRest T (i + 1)); have htk := take_ld HL.out.enc (lo := -1) (hi := (T.goes.length : Int) - 1) hst hsf hrs hxe hx0 hx1; rw [hrs] at hsf; have htx : row.take (k + 1) = row.take k ++ [x] := take_succ_app hx; have hkk : (row.take k).length = k := by rw [List.length_take, HX.out.2.2.2.2.2.1]; omega
          have q1 : wrap64 ((T.goes.length : Int) - 1) = (T.goes.length : Int) - 1 := by unfold wrap64; omega
          have w3' : IntKind.i64.wrap ((k : Int) + 1) = (k : Int) + 1 := IntWalk.i64_in _ (by omega); have hgr : gb ≠ rb := fun e => by have h1 := hst.t2; rw [← e, H11.out.2.2] at h1; cases h1
          have hcell : ∀ w5 : World, wr.grownBy w5 (some rb) → w5.ownsRow 0 3 1 (.slice (some ⟨gb, 0, none⟩) T.cuts.length T.cuts.length) T.cuts.length (nums (row.take k ++ List.replicate (T.cuts.length - k) 0)) ∧ (∃ u, w5.cell? ⟨gb, k, none⟩ = some u) ∧ w5.frozen? ⟨gb, k, none⟩ = false ∧ gb < w5.heap.size := fun w5 hg => by
           have h : w5.ownsRow 0 3 1 (.slice (some ⟨gb, 0, none⟩) T.cuts.length T.cuts.length) T.cuts.length (nums (row.take k ++ List.replicate (T.cuts.length - k) 0)) := row_ext hrw (fun g hg' => by cases hg'; exact hg.block _ (hrw.lt gb rfl).2 (fun e => hgr (by cases e; rfl))); have hl : (nums (row.take k ++ List.replicate (T.cuts.length - k) 0)).length = T.cuts.length := by simp only [nums, List.length_map, List.length_append, List.length_replicate, hkk]; omega
           exact ⟨h, ⟨_, row_cell h k _ (List.getElem?_eq_getElem (by rw [hl]; exact hkl))⟩, h.frozenAt _, (h.lt gb rfl).2⟩
          have HC := hid hcell; have HTK2 := hid htk; have HX2 := hid (And.intro hsf.drop (And.intro htx hkk)); clear hcell htk hsf hrs hx htx hkk hst hrw hgr; go_wp2_with (first | (have H0 := HTK2.out; clear HTK2; go_at_call 46; refine H0.mono ?_; clear H0; rintro e w5 ⟨rfl, hst5, hg5⟩; obtain ⟨hr5, ⟨u, zu⟩, zf, zl⟩ := HC.out w5 hg5; have H5' := hid (And.intro hst5 hr5); clear hst5 hg5 hr5)); go_roundw
          case rel =>
           refine ⟨k + 1, by go_num, by omega, H5'.out.1.other gb (by rw [H11.out.2.2]; decide) (grown_set _ _ _ _), HX2.out.1, ?_⟩; have r1 := (H5'.out.2.stored k (.int .i64 x)).1; have e : (nums (row.take k ++ List.replicate (T.cuts.length - k) 0)).set k (.int .i64 x) = nums (row.take (k + 1) ++ List.replicate (T.cuts.length - (k + 1)) 0) := by
            unfold nums; rw [← List.map_set, show T.cuts.length - k = (T.cuts.length - (k + 1)) + 1 by omega, HX2.out.2.1]; have := set_mid0 (row.take k) (T.cuts.length - (k + 1)) x; rw [HX2.out.2.2] at this; rw [this]
           rw [e] at r1; exact r1
          case measure => (simp [RowKit.intOf] <;> omega)
        · obtain rfl : k = T.cuts.length := by omega
          have hz2 : ¬ (T.cuts.length : Int) < (T.cuts.length : Int) := by omega
          have hrl := HX.out.2.2.2.2.2.1; have hce := cellRest_all row (rowRest T (i + 1)); rw [hrl] at hce; rw [hce] at hst hsf; have hfin := hst.finish gb H11.out.2.2; have hrr : wr.ownsRow 0 3 1 (.slice (some ⟨gb, 0, none⟩) T.cuts.length T.cuts.length) T.cuts.length (nums row) := by
           have h := hrw; rw [Nat.sub_self, List.replicate_zero, List.append_nil, List.take_of_length_le (by omega)] at h; exact h
          have htr6 : tagSet tag11 gb 6 gb = 6 := tagSet_new _ _ _; generalize tagSet tag11 gb 6 = tag12 at hfin htr6; have HFN := hid (And.intro hfin (And.intro hrr (And.intro htr6 (And.intro hrl hsf)))); have t2 := cell_of _ _ 2 _ _ _ hfin.ht; simp only [List.getElem?_toArray, List.getElem?_cons_zero, List.getElem?_cons_succ] at t2; have ltb := lt_of_some hfin.ht; have hs9 : ∀ w9 ob, (wr.alloc ob).grownBy w9 (Value.slice ag gpre.length cg).ownBlock → w9.frozen? ⟨tb, 2, none⟩ = false ∧ (∃ u, w9.cell? ⟨tb, 2, none⟩ = some u) ∧ tb < w9.heap.size := fun w9 ob hg => by
           obtain ⟨k1, k2, k3⟩ := cell_kept (off := 2) HFN.out.1.ht (fun e => by have h1 := HFN.out.1.t5 tb e; rw [HFN.out.1.t1] at h1; cases h1) hg; exact ⟨k2, ⟨_, k1⟩, k3⟩
          have HS9 := hid hs9; clear hs9 hst hsf hrw hce hfin hrr htr6 hrl
          go_wp2_with (at_builtin; refine wpList_append_sl _ rfl _ _ rfl elemRow _ _ _ rfl (by exact HFN.out.1.fGoes.alloc _) ⟨_, 0, none⟩ 1 1 [.slice (some ⟨gb, 0, none⟩) T.cuts.length T.cuts.length] rfl rfl (cells_new _ #[.slice (some ⟨gb, 0, none⟩) T.cuts.length T.cuts.length] _ _ (by simp)) (by simp [Value.oneCell']) (by decide) hgn (by decide) ?_; intro v9 w9 hrow9 hgr9 hbl9; obtain ⟨g19, cap19, rfl⟩ := row_succ hrow9; obtain ⟨zf, ⟨u, zu⟩, zl⟩ := HS9.out w9 _ hgr9; have H9 := hid (And.intro hrow9 (And.intro hgr9 hbl9)); clear hrow9 hgr9 hbl9); go_roundw
          case rel =>
           have h := HFN.out.1.appGoes row gb _ _ HFN.out.2.2.2.1 HFN.out.2.1 HFN.out.2.2.1 _ _ H9.out.1 H9.out.2.1 H9.out.2.2; have e1 : (T.rule.take (i + 1)).length = pre.length + 1 := by rw [HX.out.2.2.2.1]; simp
           have e2 : (T.goes.take (i + 1)).length = gpre.length + 1 := by rw [HX.out.2.2.2.2.1]; simp
           exact ⟨i + 1, _, _, _, cap9, cap19, _, by go_num, by omega, by rw [e1, e2, HX.out.2.2.2.1, HX.out.2.2.2.2.1]; exact h, HFN.out.2.2.2.2⟩
          case measure => (simp [RowKit.intOf] <;> omega)
     · obtain rfl : i = T.goes.length := by omega
       have hz : ¬ (T.goes.length : Int) < (T.goes.length : Int) := by omega
       have hrl : T.rule.length = T.goes.length := HL.out.wf.rules; rw [List.take_length, List.take_of_length_le (l := T.rule) (by omega)] at hst; obtain ⟨gr, rfl⟩ : ∃ g, ar = some ⟨g, 0, none⟩ := by
        rcases hst.fRule.2 with ⟨e9, h9⟩ | ⟨g, c9, cur9, e9, _⟩
        · omega
        · simp only [Value.slice.injEq] at e9
          exact ⟨g, e9.1⟩
       obtain ⟨gg, rfl⟩ : ∃ g, ag = some ⟨g, 0, none⟩ := by
        rcases hst.fGoes.2 with ⟨e9, h9⟩ | ⟨g, c9, cur9, e9, _⟩
        · omega
        · simp only [Value.slice.injEq] at e9
          exact ⟨g, e9.1⟩
       have htab := hst.tabAt (by omega) (by omega) 0 wr (fun _ _ _ => rfl) hst.ht; have hwf0 : WfT ⟨T.cuts, T.rule, T.goes, 0⟩ R := ⟨HL.out.wf.rise, HL.out.wf.head, HL.out.wf.top, HL.out.wf.some', HL.out.wf.rules, HL.out.wf.rows, HL.out.wf.cells, HL.out.wf.ruleR⟩; have hwo : WholeOk ⟨T.cuts, T.rule, T.goes, 0⟩ := ⟨HL.out.whole.wid, HL.out.whole.sur, HL.out.whole.zero, HL.out.whole.rule0⟩; have hwh := whole_any _ R hwf0 hwo wr _ tb _ _ _ _ _ _ htab (Nat.le_refl _) (HG.out.2.below hst.below HG.out.1) (Nat.le_trans HG.out.1 hst.below.size)
       have hbd := bound_any _ R f hwf0 best2 b2 HB.out.1 HB.out.2.1 wr.heap.size wr tb _ _ _ _ _ _ htab (Nat.le_refl _); rw [← HB.out.2.2] at hbd; have HWH := hid hwh; have HBD := hid hbd; have HF := hid hst; clear htab hwf0 hwo hwh hbd hst hsf kt; go_upto_region 24 with (first | (have H0 := HWH.out; clear HWH; go_at_call 47; refine H0.mono ?_; clear H0; rintro e w5 ⟨rfl, rfl⟩))
       go_upto_region 25 with (first | (have H0 := HBD.out; clear HBD; go_at_call 48; refine H0.mono ?_; clear H0; rintro e w13 ⟨rfl, hb13⟩; have hbt13 := (hb13.block tb (lt_of_some HF.out.ht)).trans HF.out.ht; have k3 := cell_of _ _ 3 _ _ _ hbt13; simp only [List.getElem?_toArray, List.getElem?_cons_zero, List.getElem?_cons_succ] at k3; have kf := free_of _ _ 3 _ _ hbt13; have kl := lt_of_some hbt13; have H13 := hid (And.intro hb13 hbt13); clear hb13 hbt13))
       clear k3 kf kl; have htab := HF.out.tabAt (by omega) (by omega) T.bound (w13.setCell ⟨tb, 3, none⟩ (.int .i64 T.bound)) (fun b hb hl => (heap_set _ _ _ _ hb).trans (H13.out.1.block b hl)) (heap_set_same _ _ 3 _ _ _ _ H13.out.2); have hbelow : Below w.heap.size w (w13.setCell ⟨tb, 3, none⟩ (.int .i64 T.bound)) := by
        have h1 := below_then HF.out.below H13.out.1 HF.out.below.size; have htb := HF.out.new tb (by rw [HF.out.t1]; decide); exact ⟨h1.os, h1.tape, h1.output, by simpa using h1.size, fun b hb' => (heap_set _ _ _ _ (fun e => by have e' : b = tb := e; omega)).trans (h1.block b hb')⟩
       have hby := bytes_any T HL.out.enc (w13.setCell ⟨tb, 3, none⟩ (.int .i64 T.bound)) _ tb _ _ _ _ _ _ htab (Nat.le_refl _); rw [HEB.out] at hby; have HBY := hid hby; have HTB := hid (And.intro htab hbelow); clear hby htab hbelow; generalize w13.setCell ⟨tb, 3, none⟩ (.int .i64 T.bound) = w14 at HBY HTB ⊢; go_wp2_with (first | (have H0 := HBY.out; clear HBY; go_at_call 28; refine H0.mono ?_; clear H0; rintro e w15 ⟨rfl, hb15⟩; have H15 := hid hb15; clear hb15)); refine bodyPost_ret (v := .tuple #[knotP tb, .bool true]) (by simp [results, Tryz.results29, go_sem]) rfl ?_
       exact ⟨tb, _, _, _, _, _, _, rfl, (HTB.out.1.below H15.out).mono H15.out.size, HF.out.new tb (by rw [HF.out.t1]; decide), below_then HTB.out.2 H15.out HTB.out.2.size⟩
end
section
open Go.RowKit Go.Lib
def okL (T : Tab) : Bool :=
 (encN T).all (fun x => decide (-1 ≤ x ∧ x < 100000000)) && decide ((encN T).length ≤ 100000) && widthsP.all (fun x => T.cuts.contains x) && T.goes.all (fun r => (T.cuts.zip r).all (fun p => !(decide (55296 ≤ p.1 ∧ p.1 < 57344)) || decide (p.2 < 0))) &&
 T.goes.all (fun r => !r.contains 0) && decide ((T.rule[0]?.getD 0) < 0) && decide (6 ≤ T.cuts.length ∧ T.cuts.length ≤ 7686) && decide (T.goes.length ≤ 201)
theorem loadOk_of {T : Tab} {R : Nat} (hT : WfT T R) (h8 : R ≤ 8) (h : okL T = true) : LoadOk T R := by
 simp only [okL, Bool.and_eq_true, decide_eq_true_eq, List.all_eq_true] at h; obtain ⟨⟨⟨⟨⟨⟨⟨h1, h2⟩, h3⟩, h4⟩, h5⟩, h6⟩, h7⟩, h9⟩ := h; refine ⟨hT, ⟨h1, h2, hT.rules⟩, ⟨fun x hx => by simpa using h3 x hx, fun k c hc h0 h1 row hr v hv => ?_, fun row hr => by simpa using h5 row hr, ?_⟩, h8, h7, h9⟩
 · have hz : (T.cuts.zip row)[k]? = some (c, v) := by
    rw [List.getElem?_zip_eq_some]; exact ⟨hc, hv⟩
   have := h4 row hr (c, v) (List.mem_of_getElem? hz); simp only [Bool.or_eq_true, Bool.not_eq_true', decide_eq_false_iff_not, decide_eq_true_eq] at this
   rcases this with h | h
   · exact absurd ⟨h0, h1⟩ h
   · exact h
 · cases hr : T.rule[0]? with
   | none => rw [hr] at h6; simp at h6
   | some r => rw [hr] at h6; exact ⟨r, rfl, by simpa using h6⟩
theorem loadOk_i {k : Nat} (hk : k < 8) : LoadOk (tabOf k) (rulesP k).length := by
 have h8 : ∀ j : Fin 8, (okL (tabOf j.val) && decide ((rulesP j.val).length ≤ 8)) = true := by decide +kernel
 have h := h8 ⟨k, hk⟩; rw [Bool.and_eq_true, decide_eq_true_eq] at h; exact loadOk_of (comp_i k hk).1 h.2 h.1
theorem encode_at {w0 : World} {T : Tab} {cb : Nat} {w : World} (h : CmpAt w0 T cb w) (hE : EncOk T) : Calls Tryz.prog 15 #[knotP cb] w fun e w' => e = .returned (.string (strOf (encB T))) ∧ Below w.heap.size w w' := by
 obtain ⟨tb, bc, cc, br, cr, bg, cg, h1, h2, _⟩ := h.ex; have hby := bytes_any T hE w _ tb _ _ _ _ _ _ h2 (Nat.le_refl _); have HBY := hid hby; have c0 := cell_of _ _ 0 _ _ _ h1; simp only [List.getElem?_toArray, List.getElem?_cons_zero] at c0; have hl := lt_of_some h1; generalize encB T = EB at HBY ⊢; clear h h1 h2 hby hE; go_enter Tryz.func15, Tryz.ntmps15; go_wp2_with (first | (have H0 := HBY.out; clear HBY; go_at_call 28; refine H0.mono ?_; clear H0; rintro e w1 ⟨rfl, hb⟩; have HB := hid hb; clear hb)); go_ret; exact ⟨rfl, HB.out⟩
theorem loadS_any {k : Nat} (hk : k < 8) (w : World) (hG : Gl w) : Calls Tryz.prog 16 #[.string (strOf (encB (tabOf k)))] w (CompO (tabOf k) w) := by
 obtain ⟨_, f, trees, s2, L, rule, goes, fb, best2, b2, hC⟩ := comp_i k hk; have hLO := loadOk_i hk; have hT := hC.tab; have hbl := hC.bound; have hfin := hC.fin; generalize tabOf k = T at hT hLO ⊢; subst hT; have hld := load_any _ _ hLO fb best2 b2 hbl hfin rfl w hG.size hG.wid; generalize (⟨cutsP L.cls, rule, goes, if b2.round then -1 else best2 + 1⟩ : Tab) = T at hld ⊢; have HLD := hid hld; generalize encB T = EB at HLD ⊢; clear hld hfin hbl hLO hC; go_enter Tryz.func16, Tryz.ntmps16
 go_wp2_with (first | (have H0 := HLD.out; clear HLD; go_at_call 29; refine H0.mono ?_; clear H0; rintro e w2 ⟨tb, bc, cc, br, cr, bg, cg, rfl, htab2, htb2, hb2⟩; have H2 := hid (And.intro htab2 (And.intro htb2 hb2)); clear htab2 htb2 hb2)); refine bodyPost_ret (v := .tuple #[knotP w2.heap.size, .nilIface]) (by simp [results, Tryz.results16, go_sem]) rfl ?_; have hb := H2.out.2.2; have hb3 := hb.alloc hb.size (.cells #[knotP tb] 70)
 exact ⟨w2.heap.size, tb, bc, cc, br, cr, bg, cg, rfl, heap_new _ _ _ rfl, (H2.out.1.below ((Below.refl _ w2).alloc (Nat.le_refl _) _)).mono (by simp), H2.out.2.1, hb.size, hb3⟩
end
section
open Go.RowKit Go.Lib
theorem putU_pos (f u : Nat) : 0 < (putU f u).length := by
 cases f with
 | zero => simp [putU]
 | succ f => rw [putU]; split <;> simp
theorem encB_pos (T : Tab) : 0 < (strOf (encB T)).size := by
 rw [size_strOf]; have := putU_pos 5 (((sumV (putL (encN T)) : Nat) : Int) + 1).toNat; unfold encB putI; rw [List.length_append]; omega
theorem back_any (c : Int) (hc : -9223372036854775808 ≤ c ∧ c ≤ 9223372036854775807) (t : ByteArray) (w : World) (hG : Gl w) :
 Calls Tryz.prog 4 #[.int .i64 c, .string t] w fun e w' => e = .returned (.bool true) ∧ Below w.heap.size w w' := by
 have hk := pick_lt c 8 (by decide); have htab := tables_any c hc w hG; generalize pickP c 8 = k at hk htab; have HG := hid hG; have HK := hid hk; have HTAB := hid htab; clear hG hk htab; by_cases ht : 2000 < t.size
 · have hd : (2000 : Int) < (t.size : Int) := by omega
   clear hc ht; go_enter Tryz.func4, Tryz.ntmps4; go_wp2_with (first | (go_at_call 12; refine (HTAB.out).mono ?_; rintro e w1 ⟨cb, rfl, hcm, hb1⟩; have H1 := hid (And.intro hcm hb1); clear hcm hb1)); go_ret; exact ⟨rfl, H1.out.2⟩
 · have hd : ¬ (2000 : Int) < (t.size : Int) := by omega
   have HT2 := hid (show t.size ≤ 2000 by omega); clear hc ht; go_enter Tryz.func4, Tryz.ntmps4; go_upto_region 4 with (first | (go_at_call 12; refine (HTAB.out).mono ?_; rintro e w1 ⟨cb, rfl, hcm, hb1⟩; have H1 := hid (And.intro hcm hb1); clear hcm hb1))
   have hLO := loadOk_i HK.out; have hen := encode_at H1.out.1 hLO.enc; have HEN := hid hen; clear hen; have hlds := fun w' (hG' : Gl w') => loadS_any HK.out w' hG'; have hpos := encB_pos (tabOf k); have henu := fun (w0 : World) (ub : Nat) (w' : World) (h : CmpAt w0 (tabOf k) ub w') => encode_at h hLO.enc; have HLD := hid (And.intro hlds henu); obtain ⟨S, hS⟩ : ∃ S, S = strOf (encB (tabOf k)) := ⟨_, rfl⟩; rw [← hS] at HEN HLD hpos; have hposz : decide (0 < S.size) = true := decide_eq_true hpos; clear hlds henu hLO hS hpos
   go_upto_region 5 with (first | (have H0 := HEN.out; clear HEN; go_at_call 15; refine H0.mono ?_; clear H0; rintro e w2 ⟨rfl, hb2⟩; have H2 := hid hb2; clear hb2))
   have hb2 : Below w.heap.size w w2 := below_then H1.out.2 H2.out H1.out.2.size; have HB2 := hid hb2; have HG2 := hid (HG.out.later hb2); have HLS := hid (HLD.out.1 w2 HG2.out); clear hb2; go_upto_region 8 with (first | (have H0 := HLS.out; clear HLS; go_at_call 16; refine H0.mono ?_; clear H0; rintro e w3 ho; obtain ⟨ub, rfl, ho2⟩ := cmp_of ho (Below.refl _ w2); have H3 := hid ho2; clear ho ho2))
   have hb3 : Below w.heap.size w w3 := below_then HB2.out H3.out.2 HB2.out.size; have htk := tokens_all (wf_i HK.out) t HT2.out w3 (HG.out.later hb3) ((H1.out.1.later H2.out).later H3.out.2); unfold ToksO at htk; have htu := fun w4 (hb4 : Below w3.heap.size w3 w4) => tokens_all (wf_i HK.out) t HT2.out w4 (HG.out.later (below_then hb3 hb4 hb3.size)) (H3.out.1.later hb4); unfold ToksO at htu; obtain ⟨L, hL⟩ : ∃ L, L = (idealL (tabOf k) 5000 13 3000 t 0 1 1).1 := ⟨_, rfl⟩; rw [← hL] at htk htu
   have hct : L.length ≤ 2000 := by rw [hL]; have := ideal_count (T := tabOf k) (C := 5000) (e := 13) 3000 t 0 1 1; have := HT2.out; omega
   have HTOK := hid htk; have HTU := hid htu; have HB3 := hid hb3; clear htk htu hL hb3; go_upto_region 9 with (first | (have H0 := HTOK.out; clear HTOK; go_at_call 13; refine H0.mono ?_; clear H0; rintro e w4 ⟨ao, cap, rfl, hrow, hb4⟩; have H4 := hid (And.intro hrow hb4); clear hrow hb4))
   have HTU4 := hid (HTU.out w4 H4.out.2); go_upto_region 10 with (first | (have H0 := HTU4.out; clear HTU4; go_at_call 13; refine H0.mono ?_; clear H0; rintro e w5 ⟨ao5, cap5, rfl, hrow, hb5⟩; have H5 := hid (And.intro hrow hb5); clear hrow hb5))
   have HSM := hid (same_any L (by omega) w5 _ _ ao ao5 cap cap5 (row_later H4.out.1 H5.out.2 fun g hg => (row_lo H4.out.1 g hg).2) H5.out.1); go_upto_region 11 with (first | (have H0 := HSM.out; clear HSM; go_at_call 17; refine H0.mono ?_; clear H0; rintro e w6 ⟨rfl, hb6⟩; have H6 := hid hb6; clear hb6))
   have hb36 : Below w3.heap.size w3 w6 := below_then (below_then H4.out.2 H5.out.2 H4.out.2.size) H6.out (by have := H4.out.2.size; have := H5.out.2.size; omega); have HB6 := hid hb36; have HEU := hid (HLD.out.2 _ ub w6 (H3.out.1.later hb36)); clear hb36; go_upto_region 12 with (first | (have H0 := HEU.out; clear HEU; go_at_call 15; refine H0.mono ?_; clear H0; rintro e w7 ⟨rfl, hb7⟩; have H7 := hid hb7; clear hb7))
   have hb37 : Below w3.heap.size w3 w7 := below_then HB6.out H7.out HB6.out.size; have hbu := bound_at (H3.out.1.later hb37) (tabOf k).bound rfl; have hbt := bound_at ((((H1.out.1.later H2.out).later H3.out.2)).later hb37) (tabOf k).bound rfl; generalize (tabOf k).bound = bd at hbu hbt; have HBU := hid hbu; have HBT := hid hbt; have HB7 := hid (below_then HB3.out hb37 HB3.out.size); have hbb : (bd == bd) = true := by simp
   clear hbu hbt hb37; go_wp2_with (first
    | (have H0 := HBU.out; clear HBU; go_at_call 18; refine H0.mono ?_; clear H0; rintro e w8 ⟨rfl, rfl⟩)
    | (have H0 := HBT.out; clear HBT; go_at_call 18; refine H0.mono ?_; clear H0; rintro e w8 ⟨rfl, rfl⟩))
   go_ret; exact ⟨rfl, HB7.out⟩
end
end Go.Proofs.YtghpmhllpaheiaaGreatDoor
