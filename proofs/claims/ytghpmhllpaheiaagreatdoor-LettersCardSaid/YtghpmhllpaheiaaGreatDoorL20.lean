/-
  Part of the proof: Cu1, Cu2, Mat1, Bo1, Bo2, Bo3, Map1. No condition beyond those in the statements.
-/
import Derived.Laws.EntriesVeiled
import Derived.Carry
import Derived.DeepKeys4
import Derived.WideKeyPair
import Derived.Maps.Own
import Derived.Test.YtghpmhllpaheiaaGreatDoorL09
import Derived.Test.YtghpmhllpaheiaaGreatDoorL19
import Derived.Test.YtghpmhllpaheiaaGreatDoorL07
import Derived.Test.YtghpmhllpaheiaaGreatDoorL08
set_option linter.unusedVariables false
set_option linter.unusedSimpArgs false
set_option maxRecDepth 100000
set_option maxHeartbeats 40000000
namespace Go.Proofs.YtghpmhllpaheiaaGreatDoor
section
open Go.RowKit Go.Lib
theorem ze4 : ∀ (a b : List Int), a.Pairwise (· < ·) -> b.Pairwise (· < ·) -> (∀ x, x ∈ a ↔ x ∈ b) -> a = b
 | [], [], _, _, _ => rfl
 | [], y :: b, _, _, h => absurd ((h y).2 (List.mem_cons_self ..)) (by simp)
 | x :: a, [], _, _, h => absurd ((h x).1 (List.mem_cons_self ..)) (by simp)
 | x :: a, y :: b, ha, hb, h => by
  obtain ⟨a1, a2⟩ := List.pairwise_cons.1 ha; obtain ⟨b1, b2⟩ := List.pairwise_cons.1 hb; have e : x = y := by
   rcases List.mem_cons.1 ((h x).1 (List.mem_cons_self ..)) with e | hx
   . exact e
   rcases List.mem_cons.1 ((h y).2 (List.mem_cons_self ..)) with e | hy
   . exact e.symm
   have h1 := b1 x hx
   have h2 := a1 y hy; omega
  subst e; congr 1; refine ze4 a b a2 b2 fun z => ⟨fun hz => ?_, fun hz => ?_⟩
  . rcases List.mem_cons.1 ((h z).1 (List.mem_cons_of_mem _ hz)) with e | hz'
    . have := a1 z hz; omega
    exact hz'
  rcases List.mem_cons.1 ((h z).2 (List.mem_cons_of_mem _ hz)) with e | hz'
  . have := b1 z hz; omega
  exact hz'
theorem zcx : ∀ (l : List Int) (p : Int), (p :: l).Pairwise (· <= ·) -> (zby p l).Pairwise (· < ·) /\ (∀ x ∈ zby p l, p < x) /\ ∀ x, (x = p \/ x ∈ zby p l) ↔ (x = p \/ x ∈ l)
 | [], p, _ => ⟨by simp [zby], by simp [zby], fun x => by simp [zby]⟩
 | y :: l, p, h => by
  obtain ⟨h1, h2⟩ := List.pairwise_cons.1 h; have hpy := h1 y (List.mem_cons_self ..); rw [zby]; split
  . rename_i e
    subst e; obtain ⟨i1, i2, i3⟩ := zcx l y h2; exact ⟨i1, i2, fun x => by rw [i3 x]; simp⟩
  rename_i e
  obtain ⟨i1, i2, i3⟩ := zcx l y h2; refine ⟨List.pairwise_cons.2 ⟨i2, i1⟩, fun x hx => ?_, fun x => ?_⟩
  . rcases List.mem_cons.1 hx with rfl | hx
    . omega
    have := i2 x hx; omega
  have := i3 x
  simp only [List.mem_cons]; constructor
  . rintro (e | e)
    . exact .inl e
    exact .inr (this.1 e)
  rintro (e | e)
  . exact .inl e
  exact .inr (this.2 e)
theorem zhj (x : Int) : ∀ (l : List Int), l.Pairwise (· < ·) -> (insU x l).Pairwise (· < ·) /\ ∀ y, y ∈ insU x l ↔ y = x \/ y ∈ l
 | [], _ => ⟨by simp [insU], fun y => by simp [insU]⟩
 | z :: l, h => by
  obtain ⟨h1, h2⟩ := List.pairwise_cons.1 h; rw [insU]; split
  . rename_i hlt
    refine ⟨List.pairwise_cons.2 ⟨fun y hy => ?_, h⟩, fun y => by simp⟩
    rcases List.mem_cons.1 hy with rfl | hy
    . exact hlt
    have := h1 y hy; omega
  split
  . rename_i e
    subst e; exact ⟨h, fun y => by simp⟩
  rename_i hn he
  obtain ⟨i1, i2⟩ := zhj x l h2; refine ⟨List.pairwise_cons.2 ⟨fun y hy => ?_, i1⟩, fun y => ?_⟩
  . rcases (i2 y).1 hy with rfl | hy
    . omega
    exact h1 y hy
  simp only [List.mem_cons, i2 y]
  constructor
  . rintro (e | e | e)
    . exact .inr (.inl e)
    . exact .inl e
    exact .inr (.inr e)
  rintro (e | e | e)
  . exact .inr (.inl e)
  . exact .inl e
  exact .inr (.inr e)
theorem zb8 : ∀ (l : List Int), (zgI l).Pairwise (· < ·) /\ ∀ y, y ∈ zgI l ↔ y ∈ l
 | [] => ⟨List.Pairwise.nil, fun y => Iff.rfl⟩
 | x :: l => by
  obtain ⟨i1, i2⟩ := zb8 l; obtain ⟨k1, k2⟩ := zhj x (zgI l) i1; exact ⟨k1, fun y => by show y ∈ insU x (zgI l) ↔ _; rw [k2 y, i2 y]; simp⟩
theorem comp_sort {l l' : List Int} (hp : l'.Perm l) (hs : l'.Pairwise (· <= ·)) : zgw l' = zgI l := by
 obtain ⟨s1, s2⟩ := zb8 l; have hm : ∀ x, x ∈ zgw l' ↔ x ∈ l' := by
  intro x; cases l' with
  | nil => simp [zgw]
  | cons a r =>
   have h := (zcx r a hs).2.2 x; show x ∈ a :: zby a r ↔ _; simp only [List.mem_cons]; exact h
 refine ze4 _ _ ?_ s1 fun x => by rw [hm x, s2 x]; exact hp.mem_iff
 cases l' with
 | nil => exact List.Pairwise.nil
 | cons a r =>
  obtain ⟨h1, h2, _⟩ := zcx r a hs; exact List.pairwise_cons.2 ⟨h2, h1⟩
theorem zif : zcp Tryz.prog 73 21 1 4 := zcp.of (z := .int .i32 0) Tryz.underlying73 (by kernel_rfl) rfl (by decide)
def zh7 (l : List Int) : List Value := l.map (Value.int .i32)
theorem rowAt_of {w : World} {g n cap : Nat} {l : List Int} (h : w.ownsRow 0 21 1 (.slice (some ⟨g, 0, none⟩) n cap) n (zh7 l)) : ∃ r, za9 w g l.toArray r /\ l.length = n /\ n <= cap := by
 obtain ⟨h1, h2 | ⟨g', cap', cur, hv, hb, hg, hnc, hcm, hcs, htake⟩⟩ := h
 . cases h2.1
 cases hv
 refine ⟨cur.toList.drop n, ?_, by simpa [zh7] using h1, hnc⟩; unfold za9; rw [hg]; congr 2; apply Array.ext'; show cur.toList = l.map (Value.int .i32) ++ cur.toList.drop n; rw [Nat.mul_one] at htake; rw [show l.map (Value.int .i32) = cur.toList.take n from htake.symm, List.take_append_drop]
def Wid (w : World) : Prop := ∀ (j : Nat) (u : Value), (zh7 za8)[j]? = some u -> w.cell? ⟨3, j, none⟩ = some u
theorem Wid.below {w w' : World} {B : Nat} (h : Wid w) (hb : Below B w w') (hB : Glob <= B) : Wid w' := fun j u hu => (zai hb ⟨3, j, none⟩ (by show 3 < B; unfold Glob at hB; omega)).trans (h j u hu)
theorem zi9 (ad : Addr) (m cap : Nat) (w : World) : (binOp .eql 73 (.slice (some ad) m cap) (.slice none 0 0)).run Tryz.prog w = .ok (.bool false) w := by kernel_rfl
theorem clone_any (ad : Addr) (m cap : Nat) (l : List Value) (w : World) (hm : 0 < m) (hl : l.length = m) (h1 : ∀ u ∈ l, u.oneCell' = true) (hmb : m <= 1000000) (hc : ∀ (j : Nat) (u : Value), l[j]? = some u -> w.cell? (ad.add j) = some u) (hlt : ad.block < w.heap.size) :
 Calls Tryz.prog 82 #[.slice (some ad) m cap] w fun e w' => ∃ v, e = .returned v /\ w'.ownsRow 0 21 1 v m l /\ (∀ g, v.ownBlock = some g -> w.heap.size <= g) /\ Below w.heap.size w w' := by
 have HC := hid hc; have HL := hid hl; have H1 := hid h1; clear hc hl h1; have heq := zi9 ad m cap; go_enter Tryz.func82, Tryz.ntmps82; have hB := (Below.refl w.heap.size w).alloc (Nat.le_refl _) (.cells #[] 21); have hrow0 : (w.alloc (.cells #[] 21)).ownsRow 0 21 1 (.slice (some ⟨w.heap.size, 0, none⟩) 0 0) 0 [] :=
  ⟨rfl, .inr ⟨w.heap.size, 0, #[], rfl, Nat.zero_le _, by rw [zap, if_pos rfl], Nat.le_refl _, by decide, rfl, rfl⟩⟩
 have hc0 : ∀ (j : Nat) (u : Value), l[j]? = some u -> (w.alloc (.cells #[] 21)).cell? (ad.add j) = some u := fun j u hu => (zai hB (ad.add j) (by unfold Addr.add; split <;> exact hlt)).trans (HC.out j u hu); have HRB := hid (And.intro hB (And.intro hrow0 hc0)); clear hB hrow0 hc0
 go_wp2_with (at_builtin; refine zan _ rfl _ _ rfl zif _ _ _ rfl (by exact HRB.out.2.1) ad m cap l rfl (by rw [Nat.mul_one]; exact HL.out) HRB.out.2.2 H1.out hm (by omega) (by decide) ?_; intro v1 w1 hrow1 hgr1 hbl1; obtain ⟨gz, cz, rfl⟩ := (show ∃ g c, v1 = .slice (some ⟨g, 0, none⟩) (0 + m) c from by rcases zaG hrow1 with ⟨_, h0⟩ | ⟨g, c, e, _⟩; omega; exact ⟨g, c, e⟩)); go_ret; rw [Nat.zero_add] at hrow1
 have hbl2 : (Value.slice (some ⟨gz, 0, none⟩) m cz).ownBlock = (Value.slice (some ⟨w.heap.size, 0, none⟩) 0 0).ownBlock \/ (Value.slice (some ⟨gz, 0, none⟩) m cz).ownBlock = some (w.alloc (.cells #[] 21)).heap.size := hbl1; have hgr2 : (w.alloc (.cells #[] 21)).grownBy w1 (Value.slice (some ⟨w.heap.size, 0, none⟩) 0 0).ownBlock := hgr1; refine ⟨_, rfl, by simpa using hrow1, fun g hg => ?_, zcc (B := w.heap.size) HRB.out.1 hgr2 (by simp) (fun g hg => by cases hg; exact Nat.le_refl _)⟩; have hg' : (Value.slice (some ⟨gz, 0, none⟩) m cz).ownBlock = some g := hg
 rcases hbl2 with e | e
 . rw [hg'] at e; cases e; exact Nat.le_refl _
 rw [hg'] at e; cases e; simp
end
section
open Go.RowKit Go.Lib
theorem zkv (b j : Nat) : (⟨b, 0, none⟩ : Addr).add j = ⟨b, j, none⟩ := by by_cases h : j = 0 <;> simp [Addr.add, h]
def zbP (c : List (Int × Int)) : Prop := ∀ r ∈ c, 0 <= r.1 /\ r.1 <= 1114111 /\ 0 <= r.2 /\ r.2 <= 1114111
structure CuSt (w : World) (bl : Nat) (L : Lay) (l : List Int) (g cap : Nat) (wr : World) : Prop where
 row : wr.ownsRow 0 21 1 (.slice (some ⟨g, 0, none⟩) l.length cap) l.length (zh7 l)
 new : w.heap.size <= g
 below : Below w.heap.size w wr
theorem CuSt.alloc {w wr : World} {bl : Nat} {L : Lay} {l : List Int} {g cap : Nat} (h : CuSt w bl L l g cap wr) (o : Obj) : CuSt w bl L l g cap (wr.alloc o) := ⟨h.row.alloc o, h.new, h.below.alloc h.below.size o⟩
theorem CuSt.push {w wr w2 : World} {bl : Nat} {L : Lay} {l : List Int} {g cap : Nat} (h : CuSt w bl L l g cap wr) (x : Int) (ob : Obj) (v' : Value) (hrow : w2.ownsRow 0 21 1 v' (l.length + 1) (zh7 l ++ [.int .i32 x]))
 (hg : (wr.alloc ob).grownBy w2 (some g)) (hbl : v'.ownBlock = some g \/ v'.ownBlock = some (wr.alloc ob).heap.size) : ∃ g' cap', v' = .slice (some ⟨g', 0, none⟩) (l ++ [x]).length cap' /\ CuSt w bl L (l ++ [x]) g' cap' w2 := by
 have hB : Below w.heap.size w (wr.alloc ob) := h.below.alloc h.below.size ob
 rcases zaG hrow with ⟨_, h0⟩ | ⟨g', cap', e, _⟩
 . omega
 subst e
 have el : (l ++ [x]).length = l.length + 1 := by simp
 refine ⟨g', cap', by rw [el], ⟨by rw [el]; simpa [zh7] using hrow, ?_, zcc (v := .slice (some ⟨g, 0, none⟩) 0 0) hB hg (by have := h.below.size; simp; omega) (fun g2 hg2 => by cases hg2; exact h.new)⟩⟩
 rcases hbl with e | e
 . cases e; exact h.new
 have e2 : g' = (wr.alloc ob).heap.size := by cases e; rfl
 have := h.below.size; rw [e2]; simp; omega
theorem zke (x : Int) : ∀ (l : List Int), (insU x l).length <= l.length + 1
 | [] => by simp [insU]
 | y :: l => by
  have := zke x l; unfold insU; split
  . simp
  split
  . simp
  simp; omega
theorem zgd : ∀ (l : List Int), (zgI l).length <= l.length
 | [] => by simp [zgI]
 | x :: l => by
  have h1 := zgd l; have h2 := zke x (zgI l); show (insU x (zgI l)).length <= _; simp; omega
def CutsO (L : Lay) (w : World) (e : Ending) (w' : World) : Prop := ∃ b cap r, e = .returned (.slice (some ⟨b, 0, none⟩) (zat L.cls).length cap) /\ za9 w' b (zat L.cls).toArray r /\ w.heap.size <= b /\ Below w.heap.size w w' /\ (zat L.cls).length <= cap
theorem zh8 (a b : List (Int × Int)) : zay (a ++ b) = zay a ++ zay b := by simp [zay]
theorem zg7 (l : List (Int × Int)) (r : Int × Int) : zay (l ++ [r]) = zay l ++ if r.2 < 1114111 then [r.1, r.2 + 1] else [r.1] := by simp [zay]
theorem cuts_any (L : Lay) (bl : Nat) (w : World) (hl : zeU w bl L) (hpos : 0 < L.cls.length) (hr : ∀ c ∈ L.cls, zbP c) (hW : Wid w) (hG : Glob <= w.heap.size) (hn : (zba L.cls).length < 1000000) :
 Calls Tryz.prog 60 #[zaj bl] w (CutsO L w) := by
 obtain ⟨vc, vf, vr, cvs, h1, h2, h3, h4, h5⟩ := hl; have HR := hid hr; have HW := hid hW; have HC := hid (And.intro h1 (And.intro h2 h3)); have hlw : 3 < w.heap.size := by unfold Glob at hG; omega
 have HN := hid hn; clear h1 h2 h3 h4 h5 hr hW hG hn; go_enter Tryz.func60, Tryz.ntmps60; go_upto_region 2 with (go_at_call 82; refine (clone_any ⟨3, 0, none⟩ 6 6 (zh7 za8) _ (by decide) rfl (by intro u hu; simp [zh7, za8] at hu; rcases hu with rfl | rfl | rfl | rfl | rfl | rfl <;> rfl) (by decide) (fun j u hu => by rw [zkv]; exact HW.out j u hu) hlw).mono ?_; rintro e w1 ⟨v, rfl, hrow1, hnew1, hb1⟩; obtain ⟨g1, cap1, rfl⟩ := zbl hrow1)
 have hst1 : CuSt w bl L za8 g1 cap1 w1 := ⟨hrow1, hnew1 g1 rfl, hb1⟩; have HST1 := hid hst1; have hlaid : w1.heap[bl]? = some (.cells #[vc, vf, vr] 132 (0, 0)) /\ w1.ownsRow 0 200 1 vc L.cls.length cvs := ⟨(hb1.block bl (zaa HC.out.1)).trans HC.out.1, za6 HC.out.2.1 hb1⟩; have c1 := zab _ _ 0 _ _ _ hlaid.1; have l1 := zaa hlaid.1; simp only [zLa, zLb] at c1; obtain ⟨gc, capc, rfl⟩ : ∃ g cap, vc = .slice (some ⟨g, 0, none⟩) L.cls.length cap := by
  rcases zaG hlaid.2 with ⟨_, h0⟩ | ⟨g, cap, e, _⟩
  . omega
  exact ⟨g, cap, e⟩
 have hcmax : (L.cls.length : Int) <= 9223372036854775807 := by
  have : L.cls.length <= maxLen := by rcases hlaid.2.2 with ⟨_, h⟩ | ⟨_, _, _, _, _, _, h, h', _⟩ <;> omega
  unfold maxLen at this; omega
 clear hlaid hst1 hrow1 hnew1 hb1 hlw; go_wp2_with (fail); go_loopw [3, 15] (fun s3 s15 wr => ∃ (i g cap : Nat), s15 = .int .i64 i /\ i <= L.cls.length /\ s3 = .slice (some ⟨g, 0, none⟩) (za8 ++ (L.cls.take i).flatMap zay).length cap /\ CuSt w bl L (za8 ++ (L.cls.take i).flatMap zay) g cap wr) (fun _ s15 _ => L.cls.length - (RowKit.intOf s15).toNat)
 case atStart => exact ⟨0, g1, cap1, rfl, by omega, rfl, by simpa using HST1.out⟩
 case round =>
  obtain ⟨i, g, cap, rfl, hi, rfl, hS⟩ := hrel; have HS := hid hS; clear hS; by_cases hlt : i < L.cls.length
  . have hz : (i : Int) < (L.cls.length : Int) := by omega
    obtain ⟨c, hc⟩ : ∃ c, L.cls[i]? = some c := ⟨L.cls[i], zLe hlt⟩; obtain ⟨cv, hcv, hcl⟩ := HC.out.2.2 i c hc; have hrc : wr.ownsRow 0 200 1 (.slice (some ⟨gc, 0, none⟩) L.cls.length capc) L.cls.length cvs := za6 HC.out.2.1 ⟨HS.out.below.os, HS.out.below.tape, HS.out.below.output, HS.out.below.size, HS.out.below.block⟩; have hcc : wr.cell? ⟨gc, i, none⟩ = some cv := zax hrc _ _ hcv; have lgc := (hrc.lt gc rfl).2; have hcok := HR.out c (List.mem_of_getElem? hc); have htk : L.cls.take (i + 1) = L.cls.take i ++ [c] := by rw [List.take_add_one, hc]; rfl
    have hwrapi : IntKind.i64.wrap ((i : Int) + 1) = (i : Int) + 1 := IntWalk.i64_in _ (by omega); have hlenN : (zba L.cls).length = (za8 ++ (L.cls.take i).flatMap zay).length + (zay c).length + ((L.cls.drop (i + 1)).flatMap zay).length := by
     have e : L.cls = L.cls.take i ++ [c] ++ L.cls.drop (i + 1) := by rw [<- htk, List.take_append_drop]
     conv => lhs; rw [e]
     simp [zba, Nat.add_assoc]
    have HTK := hid htk; have HLN := hid hlenN; have HCL := hid (And.intro hcl hcok); have hsl := zaG hcl; clear hcl hcok htk hlenN hrc hcv hc
    rcases hsl with ⟨rfl, hn0⟩ | ⟨gl, capl, rfl, hcapl, hgl⟩
    . have hc0 : c = [] := List.eq_nil_of_length_eq_zero hn0
      subst hc0; go_wp2_with (fail); refine wp_loop_rounds 1 ?_; rw [rounds_succ]; go_wp2_with (fail); go_roundw
      case rel =>
       refine ⟨i + 1, g, cap, by go_num, by omega, ?_, ?_⟩
       . rw [HTK.out]; simp [zay]
       . rw [HTK.out]; simpa [zay] using HS.out
      case measure => (simp [RowKit.intOf] <;> omega)
    have hclm : (c.length : Int) <= 9223372036854775807 := by
     have : c.length <= maxLen := by rcases HCL.out.1.2 with ⟨_, h⟩ | ⟨_, _, _, _, _, _, h, h', _⟩ <;> omega
     unfold maxLen at this; omega
    go_wp2_with (fail); go_loopw [3, 21] (fun s3 s21 wr2 => ∃ (j g cap : Nat), s21 = .int .i64 j /\ j <= c.length /\ s3 = .slice (some ⟨g, 0, none⟩) (za8 ++ (L.cls.take i).flatMap zay ++ zay (c.take j)).length cap /\ CuSt w bl L (za8 ++ (L.cls.take i).flatMap zay ++ zay (c.take j)) g cap wr2) (fun _ s21 _ => c.length - (RowKit.intOf s21).toNat)
    case atStart => exact ⟨0, g, cap, rfl, by omega, by simp [zay], by simpa [zay] using HS.out⟩
    case round =>
     obtain ⟨j, g2, cap2, rfl, hj, rfl, hS2⟩ := hrel; have HS2 := hid hS2; clear hS2; by_cases hltj : j < c.length
     . have hzj : (j : Int) < (c.length : Int) := by omega
       obtain ⟨x, hx⟩ : ∃ x, c[j]? = some x := ⟨c[j], zLe hltj⟩; obtain ⟨f0, f1⟩ := zfX c j x hx; have hrl : zbq wr (.slice (some ⟨gl, 0, none⟩) c.length capl) c := za6 HCL.out.1 ⟨HS2.out.below.os, HS2.out.below.tape, HS2.out.below.output, HS2.out.below.size, HS2.out.below.block⟩; have q0 := zax hrl _ _ f0; have q1 := zax hrl _ _ f1; have lgl := (hrl.lt gl rfl).2; have hxr := HCL.out.2 x (List.mem_of_getElem? hx); obtain ⟨x1, x2⟩ := x; simp only at q0 q1 hxr
       have htj : zay (c.take (j + 1)) = zay (c.take j) ++ if x2 < 1114111 then [x1, x2 + 1] else [x1] := by
        rw [List.take_add_one, hx]; exact zg7 _ _
       have hbn : (za8 ++ (L.cls.take i).flatMap zay ++ zay (c.take j)).length + 2 <= 1000000000 := by
        have h1 := HLN.out; have h2 := HN.out; have h3 : (zay (c.take j)).length <= (zay c).length := by
         have e2 := zh8 (c.take j) (c.drop j); rw [List.take_append_drop] at e2; rw [e2, List.length_append]; omega
        rw [List.length_append]; omega
       have hwrapj : IntKind.i64.wrap ((j : Int) + 1) = (j : Int) + 1 := IntWalk.i64_in _ (by omega); have HTJ := hid htj; generalize hY : za8 ++ (L.cls.take i).flatMap zay ++ zay (c.take j) = Y at *; have HY := hid hY; clear hY htj f0 f1 hrl hx; go_upto_region 8 with (fail)
       have hS3 := HS2.out.alloc (.cells #[.int .i32 x1, .int .i32 x2] 210); have hb7 : (wr.alloc (.cells #[.int .i32 x1, .int .i32 x2] 210)).heap[wr.heap.size]? = some (.cells #[.int .i32 x1, .int .i32 x2] 210 (0, 0)) := by rw [zap, if_pos rfl]
       have hne7 : (Value.slice (some ⟨g2, 0, none⟩) Y.length cap2).ownBlock ≠ some wr.heap.size := fun e => by
        have h := (HS2.out.row.lt g2 rfl).2; have e2 : g2 = wr.heap.size := by simpa [Value.ownBlock] using e
        omega
       obtain ⟨n7, hn7⟩ : ∃ y, y = wr.heap.size := ⟨_, rfl⟩; rw [<- hn7] at hb7 hne7 ⊢; clear hn7; generalize wr.alloc (.cells #[.int .i32 x1, .int .i32 x2] 210) = w7 at *; have HS3 := hid hS3; have HB7 := hid (And.intro hb7 hne7); have r0 := zab _ _ 0 _ _ _ hb7; have l7 := zaa hb7; simp only [zLa, zLb] at r0; clear hS3 hb7 hne7 q0 q1 lgl
       go_upto_region 9 with (at_builtin; refine zan _ rfl _ _ rfl zif _ _ _ rfl (by exact HS3.out.row.alloc _) ⟨_, 0, none⟩ 1 1 [.int .i32 x1] rfl rfl (zaD _ #[.int .i32 x1] _ _ (by simp)) (by simp [Value.oneCell']) (by decide) (by omega) (by decide) ?_; intro v8 w8 hrow8 hgr8 hbl8; obtain ⟨k0, k1, k2⟩ := zcq (off := 1) HB7.out.1 HB7.out.2 hgr8; simp only [zLa, zLc, zLb] at k0; obtain ⟨g8, cap8, hv8, hS8⟩ := HS3.out.push x1 _ v8 hrow8 hgr8 hbl8; rw [hv8])
       have HS8 := hid hS8; have HG8 := hid (And.intro hrow8 (And.intro hgr8 hbl8)); have hY8 : (Y ++ [x1]).length = Y.length + 1 := by simp
       have HR8 := hid (show w8.ownsRow 0 21 1 (.slice (some ⟨g8, 0, none⟩) (Y.length + 1) cap8) (Y.length + 1) (zh7 (Y ++ [x1])) by have h := hS8.row; rw [hY8] at h; exact h); clear hS8 hrow8 hgr8 hbl8 hv8 r0; by_cases h11 : x2 < 1114111
       . have e3 : IntKind.i32.wrap (x2 + 1) = x2 + 1 := IntWalk.i32_in _ (by omega)
         go_upto_region 11 with (at_builtin; refine zan _ rfl _ _ rfl zif _ _ _ rfl (by exact HR8.out.alloc _) ⟨_, 0, none⟩ 1 1 [.int .i32 (x2 + 1)] rfl rfl (zaD _ #[.int .i32 (x2 + 1)] _ _ (by simp)) (by simp [Value.oneCell']) (by decide) (by omega) (by decide) ?_; intro v9 w9 hrow9 hgr9 hbl9; rw [<- hY8] at hrow9; obtain ⟨g9, cap9, hv9, hS9⟩ := HS8.out.push (x2 + 1) _ v9 hrow9 hgr9 hbl9; rw [hv9])
         have HS9 := hid hS9; clear hS9 hrow9 hgr9 hbl9 hv9 k0 k1 k2 e3; go_wp2_with (fail); go_roundw
         case rel =>
          have hfin : Y ++ [x1] ++ [x2 + 1] = za8 ++ (L.cls.take i).flatMap zay ++ zay (c.take (j + 1)) := by
           rw [HTJ.out, if_pos h11, <- HY.out]; simp only [List.append_assoc]; rfl
          exact ⟨j + 1, g9, cap9, by go_num, by omega, by rw [<- hfin]; simp, by rw [<- hfin]; exact HS9.out⟩
         case measure => (simp [RowKit.intOf] <;> omega)
       go_wp2_with (fail)
       go_roundw
       case rel =>
        have hfin : Y ++ [x1] = za8 ++ (L.cls.take i).flatMap zay ++ zay (c.take (j + 1)) := by
         rw [HTJ.out, if_neg h11, <- HY.out]; simp only [List.append_assoc]
        exact ⟨j + 1, g8, cap8, by go_num, by omega, by rw [<- hfin]; simp, by rw [<- hfin]; exact HS8.out⟩
       case measure => (simp [RowKit.intOf] <;> omega)
     have hzj : ¬ (j : Int) < (c.length : Int) := by omega
     have hjl : j = c.length := by omega
     subst hjl; go_wp2_with (fail); go_roundw
     case rel =>
      have hfin : za8 ++ (L.cls.take i).flatMap zay ++ zay (c.take c.length) = za8 ++ (L.cls.take (i + 1)).flatMap zay := by
       rw [HTK.out, List.take_length]; simp
      exact ⟨i + 1, g2, cap2, by go_num, by omega, by rw [<- hfin], by rw [<- hfin]; exact HS2.out⟩
     case measure => (simp [RowKit.intOf] <;> omega)
  have hz : ¬ (i : Int) < (L.cls.length : Int) := by omega
  have hil : i = L.cls.length := by omega
  subst hil; have hall : za8 ++ (L.cls.take L.cls.length).flatMap zay = zba L.cls := by rw [List.take_length]; rfl
  have hrow := HS.out.row; rw [hall] at hrow ⊢; obtain ⟨r, hR, hln, hcap⟩ := rowAt_of hrow; have HR9 := hid hR; have HCAP := hid hcap; clear hrow hR; go_wp2_with (fail); have hsz : (zba L.cls).toArray.size = (zba L.cls).length := by simp
  have h6 : 6 <= (zba L.cls).length := by simp [zba, za8]
  refine (sort_any g (zba L.cls).length cap r (zba L.cls).toArray wr HR9.out hsz (by omega) HN.out).mono ?_; rintro e w2 ⟨rfl, d', hperm, hsrt, hd', hR2, hg2⟩; have H2 := hid (And.intro hperm (And.intro hsrt (And.intro hd' (And.intro hR2 hg2)))); clear hperm hsrt hd' hR2 hg2 hsz; go_wp2_with (fail); refine (zjt g (zba L.cls).length cap r d' w2 H2.out.2.2.2.1 H2.out.2.2.1 (by omega) HCAP.out HN.out).mono ?_; rintro e w3 ⟨d3, r3, rfl, hd3, hR3, hg3⟩; have H3 := hid (And.intro hd3 (And.intro hR3 hg3)); clear hd3 hR3 hg3; go_wp2_with (fail); go_ret
  obtain ⟨hperm, hsrt, hd', hR2, hg2⟩ := H2.out; obtain ⟨hd3, hR3, hg3⟩ := H3.out; have hp : d'.toList.Perm (zba L.cls) := by
   have h := hperm.2.2; rw [Array.extract_eq_self_of_le (by omega), Array.extract_eq_self_of_le (by simp)] at h; simpa using h
  have hs : d'.toList.Pairwise (· <= ·) := by
   rw [List.pairwise_iff_getElem]; intro a b ha hb hab; have h := hsrt a b (Nat.zero_le _) hab (by rw [<- hd']; simpa using hb); rw [getElem!_pos d' a (by simpa using ha), getElem!_pos d' b (by simpa using hb)] at h; simp only [Sort.ltInt, decide_eq_false_iff_not, Int.not_lt] at h; simpa using h
  have e3 : d3.toList = zat L.cls := by rw [hd3, comp_sort hp hs]; rfl
  have e4 : d3 = (zat L.cls).toArray := by rw [<- e3]
  subst e4; refine ⟨g, cap, r3, by simp, hR3, HS.out.new, ?_, Nat.le_trans (zgd _) HCAP.out⟩; exact zcc (v := .slice (some ⟨g, 0, none⟩) 0 0) (zcc (v := .slice (some ⟨g, 0, none⟩) 0 0) HS.out.below hg2 HS.out.below.size (fun g2 h => by cases h; exact HS.out.new)) hg3 (Nat.le_trans HS.out.below.size hg2.size) (fun g2 h => by cases h; exact HS.out.new)
end
section
open Go.RowKit Go.Lib
theorem add_add (s : Set2) (n : Nat) : (s.add n).add n = s.add n := by
 unfold Set2.add; split
 . simp only [Nat.or_assoc, Nat.or_self]
 simp only [Nat.or_assoc, Nat.or_self]
theorem zdL (c : Int) : ∀ (l : List (List (Int × Int))) (k : List (Int × Int)) (n : Nat) (s : Set2), zaJ c (l ++ [k]) n s = if za2 k c then (zaJ c l n s).add (n + l.length) else zaJ c l n s
 | [], k, n, s => by simp [zaJ]
 | a :: l, k, n, s => by
  show zaJ c (l ++ [k]) (n + 1) _ = _; rw [zdL c l k (n + 1)]; simp only [zaJ, List.length_cons, show n + 1 + l.length = n + (l.length + 1) by omega]
theorem zeq (c : Int) : ∀ (l : List (List (Int × Int))) (n : Nat) (s : Set2), s.Ok -> n + l.length <= 128 -> (zaJ c l n s).Ok
 | [], n, s, h, _ => h
 | a :: l, n, s, h, hn => by
  rw [List.length_cons] at hn; refine zeq c l (n + 1) _ ?_ (by omega); split
  . exact zhB h (by omega)
  exact h
theorem zja (k : List (Int × Int)) (r : Int × Int) (c : Int) : za2 (k ++ [r]) c = (za2 k c || (zdf c && (decide (r.1 <= c) && decide (c <= r.2)))) := by
 simp only [za2, List.any_append, List.any_cons, List.any_nil, Bool.or_false]; cases zdf c <;> simp
theorem valid_eq (c : Int) (w : World) : Calls Tryz.prog 85 #[.int .i32 c] w fun e w' => e = .returned (.bool (zdf c)) /\ w' = w := by
 have h := Tryz.utf8_ValidRune c w; have e : Lib.validRune c = zdf c := by
  unfold Lib.validRune zdf; rw [Bool.eq_iff_iff]; simp
 rwa [e] at h
structure MtSt (w : World) (s : Set2) (wr : World) : Prop where
 at' : zcN wr w.heap.size s
 ok : s.Ok
 below : Below w.heap.size w wr
theorem MtSt.alloc {w wr : World} {s : Set2} (h : MtSt w s wr) (o : Obj) : MtSt w s (wr.alloc o) :=
 ⟨by unfold zcN; rw [zap, if_neg (by have := zaa h.at'; omega)]; exact h.at', h.ok, h.below.alloc h.below.size o⟩
theorem MtSt.add {w wr w2 : World} {s : Set2} {n : Nat} (h : MtSt w s wr) (hn : n < 128) (h1 : zcN w2 w.heap.size (s.add n)) (h2 : wr.grownBy w2 (some w.heap.size)) : MtSt w (s.add n) w2 :=
 ⟨h1, zhB h.ok hn, zcc (v := .slice (some ⟨w.heap.size, 0, none⟩) 0 0) h.below h2 h.below.size (fun g hg => by cases hg; exact Nat.le_refl _)⟩
theorem zjs (L : Lay) (bl : Nat) (c : Int) (w : World) (hl : zeU w bl L) (hpos : 0 < L.cls.length) (hn : L.cls.length <= 128) :
 Calls Tryz.prog 61 #[zaj bl, .int .i32 c] w fun e w' => e = .returned (setV (zav L.cls c)) /\ (zav L.cls c).Ok /\ Below w.heap.size w w' := by
 obtain ⟨vc, vf, vr, cvs, h1, h2, h3, h4, h5⟩ := hl; have HC := hid (And.intro h1 (And.intro h2 h3)); have hst : MtSt w (zaJ c (L.cls.take 0) 0 (0, 0)) (w.alloc (.cells #[.int .u64 0, .int .u64 0] 147)) :=
  ⟨by unfold zcN; rw [zap, if_pos rfl]; rfl, show Set2.Ok (0, 0) from ⟨by decide, by decide⟩, (Below.refl _ w).alloc (Nat.le_refl _) _⟩
 have HST := hid hst; have c1 := zab _ _ 0 _ _ _ h1; have l1 := zaa h1; simp only [zLa, zLb] at c1; obtain ⟨gc, capc, rfl⟩ : ∃ g cap, vc = .slice (some ⟨g, 0, none⟩) L.cls.length cap := by
  rcases zaG h2 with ⟨_, h0⟩ | ⟨g, cap, e, _⟩
  . omega
  exact ⟨g, cap, e⟩
 have hcmax : (L.cls.length : Int) <= 128 := by omega
 clear h1 h2 h3 h4 h5 hst; go_enter Tryz.func61, Tryz.ntmps61; go_wp2_with (fail); obtain ⟨b4, hb4⟩ : ∃ y, y = w.heap.size := ⟨_, rfl⟩; rw [<- hb4]; have HB4 := hid hb4; clear hb4; go_loopw [14] (fun s14 wr => ∃ (i : Nat), s14 = .int .i64 i /\ i <= L.cls.length /\ MtSt w (zaJ c (L.cls.take i) 0 (0, 0)) wr) (fun s14 _ => L.cls.length - (RowKit.intOf s14).toNat)
 case atStart => exact ⟨0, rfl, by omega, HST.out⟩
 case round =>
  obtain ⟨i, rfl, hi, hS⟩ := hrel; have HS := hid hS; clear hS; by_cases hlt : i < L.cls.length
  . have hz : (i : Int) < (L.cls.length : Int) := by omega
    obtain ⟨k, hk⟩ : ∃ k, L.cls[i]? = some k := ⟨L.cls[i], zLe hlt⟩; obtain ⟨cv, hcv, hcl⟩ := HC.out.2.2 i k hk; have hB := HS.out.below; have hrc : wr.ownsRow 0 200 1 (.slice (some ⟨gc, 0, none⟩) L.cls.length capc) L.cls.length cvs := za6 HC.out.2.1 ⟨hB.os, hB.tape, hB.output, hB.size, hB.block⟩; have hcc : wr.cell? ⟨gc, i, none⟩ = some cv := zax hrc _ _ hcv; have lgc := (hrc.lt gc rfl).2; have htk : zaJ c (L.cls.take (i + 1)) 0 (0, 0) = if za2 k c then (zaJ c (L.cls.take i) 0 (0, 0)).add i else zaJ c (L.cls.take i) 0 (0, 0) := by
     rw [List.take_add_one, hk, show (some k).toList = [k] from rfl, zdL, List.length_take, Nat.zero_add, Nat.min_eq_left (by omega)]
    have hwrapi : IntKind.i64.wrap ((i : Int) + 1) = (i : Int) + 1 := IntWalk.i64_in _ (by omega); have HTK := hid htk; have HCL := hid hcl; have hsl := zaG hcl; have hokS := HS.out.ok; have HOKS := hid hokS; clear hcl htk hrc hcv hk hB hokS; generalize zaJ c (L.cls.take i) 0 (0, 0) = S at *
    rcases hsl with ⟨rfl, hn0⟩ | ⟨gl, capl, rfl, hcapl, hgl⟩
    . have hc0 : k = [] := List.eq_nil_of_length_eq_zero hn0
      subst hc0; go_wp2_with (fail); refine wp_loop_rounds 1 ?_; rw [rounds_succ]; go_wp2_with (fail); go_roundw
      case rel => exact ⟨i + 1, by go_num, by omega, by rw [HTK.out]; simpa [za2] using HS.out⟩
      case measure => (simp [RowKit.intOf] <;> omega)
    have hclm : (k.length : Int) <= 9223372036854775807 := by
     have : k.length <= maxLen := by rcases HCL.out.2 with ⟨_, h⟩ | ⟨_, _, _, _, _, _, h, h', _⟩ <;> omega
     unfold maxLen at this; omega
    go_wp2_with (fail); go_loopw [21] (fun s21 wr2 => ∃ (j : Nat), s21 = .int .i64 j /\ j <= k.length /\ MtSt w (if za2 (k.take j) c then S.add i else S) wr2) (fun s21 _ => k.length - (RowKit.intOf s21).toNat)
    case atStart => exact ⟨0, rfl, by omega, by simpa [za2] using HS.out⟩
    case round =>
     obtain ⟨j, rfl, hj, hS2⟩ := hrel; have HS2 := hid hS2; clear hS2; by_cases hltj : j < k.length
     . have hzj : (j : Int) < (k.length : Int) := by omega
       obtain ⟨x, hx⟩ : ∃ x, k[j]? = some x := ⟨k[j], zLe hltj⟩; obtain ⟨f0, f1⟩ := zfX k j x hx; have hB := HS2.out.below; have hrl : zbq wr (.slice (some ⟨gl, 0, none⟩) k.length capl) k := za6 HCL.out ⟨hB.os, hB.tape, hB.output, hB.size, hB.block⟩; have q0 := zax hrl _ _ f0; have q1 := zax hrl _ _ f1; have lgl := (hrl.lt gl rfl).2; have hin : za2 (k.take (j + 1)) c = (za2 (k.take j) c || (zdf c && (decide (x.1 <= c) && decide (c <= x.2)))) := by
        rw [List.take_add_one, hx]; exact zja _ _ _
       have hwrapj : IntKind.i64.wrap ((j : Int) + 1) = (j : Int) + 1 := IntWalk.i64_in _ (by omega); obtain ⟨x1, x2⟩ := x; simp only at q0 q1 hin; have HIN := hid hin; clear hin f0 f1 hrl hx hB; go_upto_region 7 with (fail)
       have hS3 := HS2.out.alloc (.cells #[.int .i32 x1, .int .i32 x2] 210); have hb7 : (wr.alloc (.cells #[.int .i32 x1, .int .i32 x2] 210)).heap[wr.heap.size]? = some (.cells #[.int .i32 x1, .int .i32 x2] 210 (0, 0)) := by rw [zap, if_pos rfl]
       obtain ⟨n7, hn7⟩ : ∃ y, y = wr.heap.size := ⟨_, rfl⟩; rw [<- hn7] at hb7 ⊢; clear hn7; generalize wr.alloc (.cells #[.int .i32 x1, .int .i32 x2] 210) = w7 at *; have HS3 := hid hS3; have r0 := zab _ _ 0 _ _ _ hb7; have r1 := zab _ _ 1 _ _ _ hb7; have l7 := zaa hb7; simp only [zLa, zLc, zLb] at r0 r1; clear hS3 hb7 q0 q1 lgl; have hval := fun w => valid_eq c w; by_cases hh : x1 <= c /\ c <= x2 /\ zdf c = true
       . have hh1 := hh.1
         have hh2 := hh.2.1; have HV := hid hh.2.2; have hmore : (if za2 (k.take (j + 1)) c then S.add i else S) = (if za2 (k.take j) c then S.add i else S).add i := by
          rw [HIN.out, HV.out]; simp only [hh1, hh2, decide_true, Bool.and_true, Bool.or_true, if_true]; split
          . rw [add_add]
          rfl
         have HM := hid hmore; clear hh hmore; go_wp2_with (first | (go_at_call 85; refine (hval _).mono ?_; rintro e w8 ⟨rfl, rfl⟩; rw [HV.out]) | (go_at_call 62; refine (zfo b4 i _ _ (by rw [HB4.out]; exact HS3.out.at') HS3.out.ok (by omega)).mono ?_; rintro e w9 ⟨rfl, hs9, hg9⟩)); go_roundw
         case rel =>
          refine ⟨j + 1, by go_num, by omega, ?_⟩; rw [HM.out]; rw [HB4.out] at hs9 hg9; exact HS3.out.add (by omega) hs9 hg9
         case measure => (simp [RowKit.intOf] <;> omega)
       have hmore : (if za2 (k.take (j + 1)) c then S.add i else S) = if za2 (k.take j) c then S.add i else S := by
        have e : (zdf c && (decide (x1 <= c) && decide (c <= x2))) = false := by
         rw [Bool.eq_false_iff]; intro h; simp only [Bool.and_eq_true, decide_eq_true_eq] at h; exact hh ⟨h.2.1, h.2.2, h.1⟩
        rw [HIN.out, e, Bool.or_false]
       have HM := hid hmore; clear hmore
       rcases Int.lt_or_le c x1 with d | d
       . clear hh
         go_wp2_with (fail); go_roundw
         case rel => exact ⟨j + 1, by go_num, by omega, by rw [HM.out]; exact HS3.out⟩
         case measure => (simp [RowKit.intOf] <;> omega)
       rcases Int.lt_or_le x2 c with d2 | d2
       . clear hh
         go_wp2_with (fail); go_roundw
         case rel => exact ⟨j + 1, by go_num, by omega, by rw [HM.out]; exact HS3.out⟩
         case measure => (simp [RowKit.intOf] <;> omega)
       have hv : zdf c = false := by
        rw [Bool.eq_false_iff]; exact fun h => hh ⟨d, d2, h⟩
       have HV := hid hv; clear hv hh; go_wp2_with (first | (go_at_call 85; refine (hval _).mono ?_; rintro e w8 ⟨rfl, rfl⟩; rw [HV.out]) | fail); go_roundw
       case rel => exact ⟨j + 1, by go_num, by omega, by rw [HM.out]; exact HS3.out⟩
       case measure => (simp [RowKit.intOf] <;> omega)
     have hzj : ¬ (j : Int) < (k.length : Int) := by omega
     have hjl : j = k.length := by omega
     subst hjl; go_wp2_with (fail); go_roundw
     case rel => exact ⟨i + 1, by go_num, by omega, by rw [HTK.out]; simpa [List.take_length] using HS2.out⟩
     case measure => (simp [RowKit.intOf] <;> omega)
  have hz : ¬ (i : Int) < (L.cls.length : Int) := by omega
  have hil : i = L.cls.length := by omega
  subst hil; have hS := HS.out; rw [List.take_length] at hS; change MtSt w (zav L.cls c) wr at hS; have HS9 := hid hS; obtain ⟨s0, s1⟩ := hS.at'.cells; have f0 := zae _ _ 0 _ _ hS.at'; have f1 := zae _ _ 1 _ _ hS.at'; have l4 := zaa hS.at'; rw [<- HB4.out] at s0 s1 f0 f1 l4; clear hS; go_wp2_with (fail); have hat : zcN ((wr.setCell ⟨b4, 0, none⟩ (.int .u64 (zav L.cls c).1)).setCell ⟨b4, 1, none⟩ (.int .u64 (zav L.cls c).2)) b4 (zav L.cls c) := by
   unfold zcN; rw [zac _ b4 1 _ _ _ _ (zac wr b4 0 _ _ _ _ (by rw [HB4.out]; exact HS9.out.at'))]; rfl
  have hbl : Below w.heap.size w ((wr.setCell ⟨b4, 0, none⟩ (.int .u64 (zav L.cls c).1)).setCell ⟨b4, 1, none⟩ (.int .u64 (zav L.cls c).2)) :=
   (HS9.out.below.setCell (p := (⟨b4, 0, none⟩ : Addr)) (by rw [HB4.out]; exact Nat.le_refl _) _).setCell (p := (⟨b4, 1, none⟩ : Addr)) (by rw [HB4.out]; exact Nat.le_refl _) _
  generalize (wr.setCell ⟨b4, 0, none⟩ (.int .u64 (zav L.cls c).1)).setCell ⟨b4, 1, none⟩ (.int .u64 (zav L.cls c).2) = w9 at *; obtain ⟨y0, y1⟩ := hat.cells; simp [bodyPost, results, Tryz.results61, go_sem, y0, y1]; exact ⟨rfl, HS9.out.ok, hbl⟩
end
section
open Go.RowKit Go.Lib
abbrev walkV (sa ta fa ra wa : Nat) : Value := .func (Fn.func 74) #[] #[zaj sa, zaj ta, zaj fa, zaj ra, zaj wa]
def nums (l : List Int) : List Value := l.map (Value.int .i64)
structure BAt (B : Nat) (w : World) (sa ta fa ra wa gs gf bt n : Nat) (b : BSt) : Prop where
 hs : w.heap[sa]? = some (.cells #[.slice (some ⟨gs, 0, none⟩) n n] 39 (0, 0))
 ht : w.heap[ta]? = some (.cells #[zaj bt] 68 (0, 0))
 hf : w.heap[fa]? = some (.cells #[.slice (some ⟨gf, 0, none⟩) n n] 39 (0, 0))
 hr : w.heap[ra]? = some (.cells #[.bool b.round] 4 (0, 0))
 hw : w.heap[wa]? = some (.cells #[walkV sa ta fa ra wa] 153 (0, 0))
 rs : w.ownsRow 0 3 1 (.slice (some ⟨gs, 0, none⟩) n n) n (nums b.state)
 rf : w.ownsRow 0 3 1 (.slice (some ⟨gf, 0, none⟩) n n) n (nums b.far)
 n1 : gs ≠ sa /\ gs ≠ ta /\ gs ≠ fa /\ gs ≠ ra /\ gs ≠ wa /\ gs ≠ gf
 n2 : gf ≠ sa /\ gf ≠ ta /\ gf ≠ fa /\ gf ≠ ra /\ gf ≠ wa
 n3 : ra ≠ sa /\ ra ≠ ta /\ ra ≠ fa /\ ra ≠ wa
 lb : B <= gs /\ B <= gf /\ B <= ra
section
variable {B : Nat} {w : World} {sa ta fa ra wa gs gf bt n : Nat} {b : BSt}
theorem BAt.setState (h : BAt B w sa ta fa ra wa gs gf bt n b) (i : Nat) (x : Int) : BAt B (w.setCell ⟨gs, i, none⟩ (.int .i64 x)) sa ta fa ra wa gs gf bt n { b with state := b.state.set i x } := by
 obtain ⟨a1, a2, a3, a4, a5, a6⟩ := h.n1; refine ⟨(zaf _ _ _ _ (Ne.symm a1)).trans h.hs, (zaf _ _ _ _ (Ne.symm a2)).trans h.ht, (zaf _ _ _ _ (Ne.symm a3)).trans h.hf, (zaf _ _ _ _ (Ne.symm a4)).trans h.hr, (zaf _ _ _ _ (Ne.symm a5)).trans h.hw, ?_, zbT _ h.rf (by simpa [Value.ownBlock] using Ne.symm a6), h.n1, h.n2, h.n3, h.lb⟩; have := (h.rs.stored i (.int .i64 x)).1; unfold nums at *; rw [List.map_set]; exact this
theorem BAt.setFar (h : BAt B w sa ta fa ra wa gs gf bt n b) (i : Nat) (x : Int) : BAt B (w.setCell ⟨gf, i, none⟩ (.int .i64 x)) sa ta fa ra wa gs gf bt n { b with far := b.far.set i x } := by
 obtain ⟨a1, a2, a3, a4, a5⟩ := h.n2; have a6 := h.n1.2.2.2.2.2; refine ⟨(zaf _ _ _ _ (Ne.symm a1)).trans h.hs, (zaf _ _ _ _ (Ne.symm a2)).trans h.ht, (zaf _ _ _ _ (Ne.symm a3)).trans h.hf, (zaf _ _ _ _ (Ne.symm a4)).trans h.hr, (zaf _ _ _ _ (Ne.symm a5)).trans h.hw, zbT _ h.rs (by simpa [Value.ownBlock] using a6), ?_, h.n1, h.n2, h.n3, h.lb⟩; have := (h.rf.stored i (.int .i64 x)).1; unfold nums at *; rw [List.map_set]; exact this
theorem BAt.setRound (h : BAt B w sa ta fa ra wa gs gf bt n b) (x : Bool) : BAt B (w.setCell ⟨ra, 0, none⟩ (.bool x)) sa ta fa ra wa gs gf bt n { b with round := x } := by
 obtain ⟨a1, a2, a3, a4⟩ := h.n3; refine ⟨(zaf _ _ _ _ (Ne.symm a1)).trans h.hs, (zaf _ _ _ _ (Ne.symm a2)).trans h.ht, (zaf _ _ _ _ (Ne.symm a3)).trans h.hf, ?_, (zaf _ _ _ _ (Ne.symm a4)).trans h.hw, zbT _ h.rs (by simpa [Value.ownBlock] using h.n1.2.2.2.1), zbT _ h.rf (by simpa [Value.ownBlock] using h.n2.2.2.2.1), h.n1, h.n2, h.n3, h.lb⟩; rw [zac w ra 0 _ _ _ _ h.hr]; rfl
theorem BAt.drew (h : BAt B w sa ta fa ra wa gs gf bt n b) : BAt B w.drew sa ta fa ra wa gs gf bt n b := ⟨h.hs, h.ht, h.hf, h.hr, h.hw, h.rs, h.rf, h.n1, h.n2, h.n3, h.lb⟩
end
theorem zk2 (c : Int) : Lib.runeLen c = zcA c := by
 unfold Lib.runeLen zcA
 repeat' split
 all_goals first | rfl | (exfalso; omega)
theorem zgD (c : Int) : -1 <= zcA c /\ zcA c <= 4 := by
 unfold zcA
 repeat' split
 all_goals omega
def zb2 (b b2 : BSt) : Prop := b2.state.length = b.state.length /\ b2.far.length = b.far.length /\ ∀ j, b.far.getD j 0 <= b2.far.getD j 0
theorem zb2.refl (b : BSt) : zb2 b b := ⟨rfl, rfl, fun _ => Int.le_refl _⟩
theorem zb2.trans {a b c : BSt} (h : zb2 a b) (k : zb2 b c) : zb2 a c := ⟨k.1.trans h.1, k.2.1.trans h.2.1, fun j => Int.le_trans (h.2.2 j) (k.2.2 j)⟩
theorem zb2.state (b : BSt) (i : Nat) (x : Int) : zb2 b { b with state := b.state.set i x } := ⟨by simp, rfl, fun _ => Int.le_refl _⟩
theorem zb2.round (b : BSt) (x : Bool) : zb2 b { b with round := x } := ⟨rfl, rfl, fun _ => Int.le_refl _⟩
theorem zb2.far (b : BSt) (i : Nat) (x : Int) : zb2 b { b with far := b.far.set i (max (b.far.getD i 0) x) } := by
 refine ⟨rfl, by simp, fun j => ?_⟩; show _ <= (b.far.set i _).getD j 0; by_cases h : i = j
 . subst h
   rcases Nat.lt_or_ge i b.far.length with hl | hl
   . rw [zbv hl]; omega
   rw [List.set_eq_of_length_le hl]; exact Int.le_refl _
 rw [zbb h]; exact Int.le_refl _
theorem zc8 {T : Tab} : ∀ (f : Nat), (∀ i b b2, zeK T f i b = some b2 -> zb2 b b2) /\ (∀ i k r b b2, zbm T f i k r b = some b2 -> zb2 b b2) := by
 intro f
 induction f with
 | zero => exact ⟨fun i b b2 h => (by rw [zeK] at h; cases h), fun i k r b b2 h => (by rw [zbm] at h; cases h)⟩
 | succ f ih =>
  refine ⟨fun i b b2 h => ?_, fun i k r b b2 h => ?_⟩
  . rw [zeK] at h
    split at h
    . cases h
    rename_i b3 e
    cases h; exact (zb2.state b i 1).trans ((ih.2 _ _ _ _ _ e).trans (zb2.state b3 i 2))
  cases r with
  | nil => rw [zbm] at h; cases h; exact zb2.refl _
  | cons u r =>
   rw [zbm] at h; split at h
   . exact ih.2 _ _ _ _ _ h
   simp only at h
   have h0 := zb2.far b i (zcA (T.cuts.getD k 0) - 1); split at h
   . exact h0.trans (ih.2 _ _ _ _ _ h)
   split at h
   . exact h0.trans ((zb2.round _ true).trans (ih.2 _ _ _ _ _ h))
   split at h
   . cases h
   rename_i b3 e
   have h1 : zb2 { b with far := b.far.set i (max (b.far.getD i 0) (zcA (T.cuts.getD k 0) - 1)) } b3 := by
    split at e
    . exact ih.1 _ _ _ e
    cases e; exact zb2.refl _
   exact h0.trans (h1.trans ((zb2.far b3 i _).trans (ih.2 _ _ _ _ _ h)))
def WalkC (T : Tab) (R f : Nat) : Prop := ∀ (i : Nat) (b b2 : BSt) (B : Nat) (w : World) (sa ta fa ra wa gs gf bt bc cc br cr bg cg : Nat), zeK T f i b = some b2 -> BAt B w sa ta fa ra wa gs gf bt T.goes.length b -> zbY B w bt T bc cc br cr bg cg -> i < T.goes.length ->
 b.state.length = T.goes.length -> b.far.length = T.goes.length -> (∀ j, 0 <= b.far.getD j 0) -> (∀ j, b2.far.getD j 0 <= 1000000) ->
 Calls Tryz.prog 74 #[.int .i64 i, zaj sa, zaj ta, zaj fa, zaj ra, zaj wa] w fun e w' => e = .returned (.tuple #[]) /\ BAt B w' sa ta fa ra wa gs gf bt T.goes.length b2 /\ Below B w w'
structure WalkSt (T : Tab) (F i : Nat) (b3 : BSt) (B : Nat) (w : World) (sa ta fa ra wa gs gf bt bc cc br cr bg cg : Nat) (k : Nat) (b : BSt) (wr : World) : Prop where
 at' : BAt B wr sa ta fa ra wa gs gf bt T.goes.length b
 tab : zbY B wr bt T bc cc br cr bg cg
 rest : ∃ f, f <= F /\ zbm T f i k ((T.goes.getD i []).drop k) b = some b3
 ls : b.state.length = T.goes.length
 lf : b.far.length = T.goes.length
 nn : ∀ j, 0 <= b.far.getD j 0
 below : Below B w wr
theorem zbM {l : List Int} {j : Nat} (h : j < l.length) : (nums l)[j]? = some (.int .i64 (l.getD j 0)) := by
 unfold nums; rw [List.getElem?_map, zLe h, zLf, zLe h]; rfl
end
section
open Go.RowKit Go.Lib
theorem walk_any (T : Tab) (R : Nat) (hT : WfT T R) (f : Nat) : WalkC T R f := by
 induction f using Nat.strongRecOn with
 | ind f ih =>
 intro i b b2 B w sa ta fa ra wa gs gf bt bc cc br cr bg cg hw hB hTab hi hls hlf hnn hfin; cases f with
 | zero => rw [zeK] at hw; cases hw
 | succ f =>
 rw [zeK] at hw; cases hx : zbm T f i 0 (T.goes.getD i []) { b with state := b.state.set i 1 } with
 | none => rw [hx] at hw; cases hw
 | some b3 =>
 rw [hx] at hw; cases hw; have IH := hid ih; have HT := hid hT; have hB1 := hB.setState i 1; have hsz := hTab.size.2; obtain ⟨row, hrow⟩ : ∃ row, T.goes[i]? = some row := ⟨T.goes[i], zLe hi⟩; have hgd : T.goes.getD i [] = row := by rw [zLf, hrow]; rfl
 have hmem : row ∈ T.goes := List.mem_of_getElem? hrow; have hrl := hT.rows row hmem; have hrc := hT.cells row hmem; have s0 := zab _ _ 0 _ _ _ hB.hs; have t0 := zab _ _ 0 _ _ _ hB.ht; simp only [zLa, zLb] at s0 t0; have lsa := zaa hB.hs; have lta := zaa hB.ht; have lgs := (hB.rs.lt gs rfl).2; have cgs := zax hB.rs i _ (zbM (by rw [hls]; exact hi)); have fgs := hB.rs.frozenAt i; have hzi : (i : Int) < (T.goes.length : Int) := by omega
 obtain ⟨hn11, hn12, hn13, hn14, hn15, hn16⟩ := hB.n1; have hBle := hB.lb; have hbel1 : Below B w (w.setCell ⟨gs, i, none⟩ (.int .i64 1)) := (Below.refl B w).setCell (p := (⟨gs, i, none⟩ : Addr)) hBle.1 _; have hst : WalkSt T f i b3 B w sa ta fa ra wa gs gf bt bc cc br cr bg cg 0 { b with state := b.state.set i 1 } (w.setCell ⟨gs, i, none⟩ (.int .i64 1)) :=
  ⟨hB1, hTab.below hbel1, ⟨f, Nat.le_refl _, by rw [List.drop_zero]; exact hx⟩, by simpa using hls, hlf, hnn, hbel1⟩
 have HST := hid hst; have HFIN := hid hfin; have HROW := hid (And.intro hrow (And.intro hgd (And.intro hrl hrc))); have t1 := zab _ _ 0 _ _ _ hB1.ht; simp only [zLa, zLb] at t1; have lta1 := zaa hB1.ht; have hTab1 := hTab.below hbel1; have g2 := hTab1.c2; obtain ⟨rb, rcap, q1', q2, q3⟩ := hTab.goes i row hrow; have q1 := (zai hbel1 ⟨bg, i, none⟩ hTab.ltg).trans q1'; have HQ3 := hid (And.intro q2 q3); clear hst hfin hrow hgd hmem hrl hrc hB hB1 hTab hx hls hlf hnn hbel1 ih hT hTab1 q3 q1'
 have hclen : T.cuts.length < 1000000 := HST.out.tab.size.1; go_enter Tryz.func74, Tryz.ntmps74; go_upto_region 1 with (fail)
 generalize w.setCell ⟨gs, i, none⟩ (.int .i64 1) = w1 at *; go_wp2_with (fail); have hrowlen : row.length <= T.cuts.length /\ T.cuts.length <= row.length := by rw [HROW.out.2.2.1]; exact ⟨Nat.le_refl _, Nat.le_refl _⟩
 obtain ⟨hrow1, hrow2⟩ := hrowlen; have hrz : (row.length : Int) <= 1000000 := by omega
 clear s0 t0 t1 lsa lta lta1 lgs cgs fgs g2 q1; go_loopw [21] (fun s21 wr => ∃ (k : Nat) (bk : BSt), s21 = .int .i64 k /\ k <= row.length /\ WalkSt T f i b3 B w sa ta fa ra wa gs gf bt bc cc br cr bg cg k bk wr) (fun s21 _ => row.length - (RowKit.intOf s21).toNat)
 case atStart => exact ⟨0, _, rfl, by omega, HST.out⟩
 case round =>
  obtain ⟨k, bk, rfl, hk, hS⟩ := hrel; have HS := hid hS; clear hS HST; by_cases hlt : k < row.length
  . have hz : (k : Int) < (row.length : Int) := by omega
    obtain ⟨u, hu⟩ : ∃ u, row[k]? = some u := ⟨row[k], zLe hlt⟩; have hur := HROW.out.2.2.2 u (List.mem_of_getElem? hu); have ck : wr.cell? ⟨rb, k, none⟩ = some (.int .i64 u) := (zai HS.out.below ⟨rb, k, none⟩ q2).trans (HQ3.out.2 k u hu); have hsw := HS.out.below.size; have hwf0 : 0 < T.goes.length := by omega
    have lrb : rb < wr.heap.size := by
     have h := ck
     rcases Nat.lt_or_ge rb wr.heap.size with hl | hl
     . exact hl
     rw [World.cell?, Array.getElem?_eq_none hl] at h
     cases h
    obtain ⟨f', hf', hrest⟩ := HS.out.rest; have hdrop : (T.goes.getD i []).drop k = u :: row.drop (k + 1) := by
     rw [HROW.out.2.1, List.drop_eq_getElem_cons hlt]; congr 1; rw [zLe hlt] at hu; exact Option.some.inj hu
    rw [hdrop] at hrest; have hwrapk : IntKind.i64.wrap ((k : Int) + 1) = (k : Int) + 1 := IntWalk.i64_in _ (by omega); cases f' with
    | zero => rw [zbm] at hrest; cases hrest
    | succ f' =>
    rw [zbm] at hrest; clear hdrop hu hlt; have hd2 : (T.goes.getD i []).drop (k + 1) = row.drop (k + 1) := by rw [HROW.out.2.1]
    have HD2 := hid hd2; clear hd2; by_cases hneg : u < 0
    . rw [if_pos hneg] at hrest
      have HRE := hid hrest; clear hrest; go_wp2_with (fail); go_roundw
      case rel => exact ⟨k + 1, bk, by go_num, by omega, HS.out.at', HS.out.tab, ⟨f', by omega, by rw [HD2.out]; exact HRE.out⟩, HS.out.ls, HS.out.lf, HS.out.nn, HS.out.below⟩
      case measure => (simp [RowKit.intOf] <;> omega)
    rw [if_neg hneg] at hrest
    simp only at hrest; obtain ⟨m, hm⟩ : ∃ m : Nat, u = (m : Int) := ⟨u.toNat, by omega⟩; subst hm; rw [Int.toNat_natCast] at hrest; have hmn : m < T.goes.length := by omega
    have hmz : (m : Int) < (T.goes.length : Int) := by omega
    obtain ⟨cv, hcv⟩ : ∃ cv, cv = T.cuts.getD k 0 := ⟨_, rfl⟩; obtain ⟨wk, hwk⟩ : ∃ wk, wk = zcA cv := ⟨_, rfl⟩; rw [<- hcv, <- hwk] at hrest; have hwr := zgD cv; rw [<- hwk] at hwr; obtain ⟨F1, hF1⟩ : ∃ F1, F1 = max (bk.far.getD i 0) (wk - 1) := ⟨_, rfl⟩; rw [<- hF1] at hrest; obtain ⟨rcu, hrcu⟩ := HS.out.tab.cuts; have cck : wr.cell? ⟨bc, k, none⟩ = some (.int .i32 cv) := by
     have h := hrcu.cell k (by simp; omega); rw [h, hcv]; congr 2; rw [getElem!_pos _ k (by simp; omega), zLf, zLe (by omega)]; simp
    have g0 := HS.out.tab.c0; have lbt : bt < wr.heap.size := zLd HS.out.tab.lt (by have := (HS.out.at'.rs.lt gs rfl).2; omega); have lbc := hrcu.lt; have t0 := zab _ _ 0 _ _ _ HS.out.at'.ht; have f0 := zab _ _ 0 _ _ _ HS.out.at'.hf; simp only [zLa, zLb] at t0 f0; have lta := zaa HS.out.at'.ht; have lfa := zaa HS.out.at'.hf; have hkc : (k : Int) < (T.cuts.length : Int) := by omega
    have cfi := zax HS.out.at'.rf i _ (zbM (by rw [HS.out.lf]; exact hi)); have ffi := HS.out.at'.rf.frozenAt i; have lgf := (HS.out.at'.rf.lt gf rfl).2; have hFb := HS.out.nn i; have hFle : bk.far.getD i 0 <= 1000000 := by
     have h1 := (zc8 (T := T) (f' + 1)).2 i k (((m : Int)) :: row.drop (k + 1)) bk b3 (by rw [zbm, if_neg hneg]; simp only [Int.toNat_natCast, <- hcv, <- hwk, <- hF1]; exact hrest); exact Int.le_trans (h1.2.2 i) (HFIN.out i)
    obtain ⟨F0, hF0⟩ : ∃ F0, F0 = bk.far.getD i 0 := ⟨_, rfl⟩; rw [<- hF0] at cfi hFb hFle hF1; have hlen : ∀ w, Calls Tryz.prog 75 #[.int .i32 cv] w fun e w' => e = .returned (.int .i64 wk) /\ w = w' := fun w => by
     have h := Tryz.utf8_RuneLen cv w; rw [zk2, <- hwk] at h; exact h.mono fun _ _ h => ⟨h.1, h.2.symm⟩
    have HLEN := hid hlen; have HRE := hid hrest; have HF1 := hid hF1; have HF0 := hid hF0; have hwrapw : IntKind.i64.wrap (wk - 1) = wk - 1 := IntWalk.i64_in _ (by omega); clear hrest hF1 hF0 hwk hcv hrcu hlen hneg; go_upto_region 6 with (go_at_call 75; refine (HLEN.out _).mono ?_; rintro e w2 ⟨rfl, rfl⟩)
    go_cut [] from 36 to 45 (fun wx => BAt B wx sa ta fa ra wa gs gf bt T.goes.length { bk with far := bk.far.set i F1 } /\ Below B wr wx)
    case first =>
     refine wp_region_noPanic ?_; refine zaA (fun w' => w'.cell? ⟨fa, 0, none⟩ = some (.slice (some ⟨gf, 0, none⟩) T.goes.length T.goes.length) /\ w'.cell? ⟨gf, i, none⟩ = some (.int .i64 F0)) 10 (by kernel_rfl) ⟨f0, cfi⟩ (fun hS0 => ?_); refine zak 0 hS0 ?_; (try simp only [Act.put, lA, lB, lC]); refine zak 1 hS0 ?_; (try simp only [Act.put, lA, lB, lC]); refine zak 2 hS0 ?_; (try simp only [Act.put, lA, lB, lC]); refine zak 3 hS0 ?_; (try simp only [Act.put, lA, lB, lC]); refine zak 4 hS0 ?_; (try simp only [Act.put, lA, lB, lC]); refine zak 5 hS0 ?_; (try simp only [Act.put, lA, lB, lC]); refine zak 6 hS0 ?_; (try simp only [Act.put, lA, lB, lC]); refine zak 7 hS0 ?_; (try simp only [Act.put, lA, lB, lC]); refine zak 8 hS0 ?_; (try simp only [Act.put, lA, lB, lC]); refine zak 9 hS0 ?_; (try simp only [Act.put, lA, lB, lC]); refine zaq 10 (by rfl) (by kernel_rfl) (fun K hK => ?_); go_simp; refine hK.out _ _ (fun h => absurd rfl h) ?_; clear hK K hS0; (try simp only [Act.put, lA, lB, lC]); refine zaP (by kernel_rfl) ?_; refine NoPanic.normal ?_; go_wp2_with (fail); go_meet
     case rel =>
      rw [<- HF1.out]; have h := HS.out.at'.drew.setFar i F1; exact ⟨h, ((Below.refl B wr).drew).setCell (p := (⟨gf, i, none⟩ : Addr)) hBle.2.1 _⟩
    case rest =>
     obtain ⟨hB6, hb6⟩ := hcut; have hbw6 := HS.out.below.trans hb6; have hT6 := HS.out.tab.below hb6; have hls6 := HS.out.ls; have hlf6 : (bk.far.set i F1).length = T.goes.length := by simpa using HS.out.lf
     have hnn6 : ∀ j, 0 <= (bk.far.set i F1).getD j 0 := fun j => by
      by_cases e : i = j
      . subst e
        rw [zbv (by rw [HS.out.lf]; exact hi), HF1.out]; omega
      rw [zbb e]; exact HS.out.nn j
     obtain ⟨b6, hb6e⟩ : ∃ b6 : BSt, b6 = { bk with far := bk.far.set i F1 } := ⟨_, rfl⟩; rw [<- hb6e] at hB6; have hrest : (if 0 <= T.rule.getD m 0 then zbm T f' i (k + 1) (row.drop (k + 1)) b6 else if b6.state.getD m 0 = 1 then zbm T f' i (k + 1) (row.drop (k + 1)) { b6 with round := true } else
      match (if b6.state.getD m 0 = 0 then zeK T f' m b6 else some b6) with
      | none => none
      | some b7 => zbm T f' i (k + 1) (row.drop (k + 1)) { b7 with far := b7.far.set i (max (b7.far.getD i 0) (wk + b7.far.getD m 0)) }) = some b3 := by rw [hb6e]; exact HRE.out
     have hls7 : b6.state.length = T.goes.length := by rw [hb6e]; exact hls6
     have hlf7 : b6.far.length = T.goes.length := by rw [hb6e]; exact hlf6
     have hnn7 : ∀ j, 0 <= b6.far.getD j 0 := fun j => by rw [hb6e]; exact hnn6 j
     clear hls6 hlf6 hnn6; have HE6 := hid hb6e; have HB6 := hid (And.intro hB6 (And.intro hT6 (And.intro hbw6 (And.intro hls7 (And.intro hlf7 hnn7))))); have hrx : ∃ x, T.rule[m]? = some x /\ T.rule.getD m 0 = x := by
      have hl : m < T.rule.length := by rw [HT.out.rules]; exact hmn
      exact ⟨T.rule[m], zLe hl, by rw [zLf, zLe hl]; rfl⟩
     obtain ⟨rx, hrx1, hrx2⟩ := hrx; rw [hrx2] at hrest; have k0 := zab _ _ 0 _ _ _ hB6.ht; have k1 := hT6.c1; have k2 := hT6.rule m rx hrx1; have k3 := zab _ _ 0 _ _ _ hB6.hs; have k4 := zax hB6.rs m _ (zbM (by rw [hls7]; exact hmn)); have lk0 := zaa hB6.ht; have lk3 := zaa hB6.hs; have lk4 := (hB6.rs.lt gs rfl).2; have lkB : B <= wc.heap.size := by omega
     have lk1 : bt < wc.heap.size := zLd hT6.lt lkB; have lk2 : br < wc.heap.size := zLd hT6.ltr lkB; simp only [zLa, zLb] at k0 k3; have hrlen : (m : Int) < (T.rule.length : Int) := by rw [HT.out.rules]; omega
     clear hB6 hT6 hbw6 hls7 hlf7 hnn7 hb6e hrx1 hrx2 f0 cfi ffi lgf t0 g0 cck ck lta lfa lbt lbc lrb hb6; by_cases hrn : 0 <= rx
     . rw [if_pos hrn] at hrest
       have HRE2 := hid hrest; clear hrest; go_wp2_with (fail); go_roundw
       case rel => exact ⟨k + 1, b6, by go_num, by omega, HB6.out.1, HB6.out.2.1, ⟨f', by omega, by rw [HD2.out]; exact HRE2.out⟩, HB6.out.2.2.2.1, HB6.out.2.2.2.2.1, HB6.out.2.2.2.2.2, HB6.out.2.2.1⟩
       case measure => (simp [RowKit.intOf] <;> omega)
     rw [if_neg hrn] at hrest
     by_cases hst1 : b6.state.getD m 0 = 1
     . rw [if_pos hst1] at hrest
       rw [hst1] at k4; have HRE2 := hid hrest; have cr := zab _ _ 0 _ _ _ HB6.out.1.hr; have fr := zae _ _ 0 _ _ HB6.out.1.hr; have lr := zaa HB6.out.1.hr; simp only [zLa, zLb] at cr; have h9 := HB6.out.1.setRound true; have hb9 : Below B wc (wc.setCell ⟨ra, 0, none⟩ (.bool true)) := (Below.refl B wc).setCell (p := (⟨ra, 0, none⟩ : Addr)) hBle.2.2 _; have HB9 := hid (And.intro h9 hb9); clear hrest hst1 h9 hb9; go_wp2_with (fail); go_roundw
       case rel => exact ⟨k + 1, _, by go_num, by omega, HB9.out.1, HB6.out.2.1.below HB9.out.2, ⟨f', by omega, by rw [HD2.out]; exact HRE2.out⟩, HB6.out.2.2.2.1, HB6.out.2.2.2.2.1, HB6.out.2.2.2.2.2, HB6.out.2.2.1.trans HB9.out.2⟩
       case measure => (simp [RowKit.intOf] <;> omega)
     rw [if_neg hst1] at hrest
     obtain ⟨st, hst⟩ : ∃ y, y = b6.state.getD m 0 := ⟨_, rfl⟩; rw [<- hst] at hrest k4 hst1; by_cases hst0 : st = 0
     . rw [if_pos hst0] at hrest
       cases hx7 : zeK T f' m b6 with
       | none => rw [hx7] at hrest; cases hrest
       | some b7 =>
       rw [hx7] at hrest; simp only at hrest; have HRE3 := hid hrest; have hfb7 : ∀ j, b7.far.getD j 0 <= 1000000 := fun j => by
        have h1 := (zc8 (T := T) f').2 _ _ _ _ _ hrest; have h2 := (zb2.far b7 i (wk + b7.far.getD m 0)).2.2 j; exact Int.le_trans h2 (Int.le_trans (h1.2.2 j) (HFIN.out j))
       have hcall := IH.out f' (by omega) m b6 b7 B wc sa ta fa ra wa gs gf bt bc cc br cr bg cg hx7 HB6.out.1 HB6.out.2.1 hmn HB6.out.2.2.2.1 HB6.out.2.2.2.2.1 HB6.out.2.2.2.2.2 hfb7; have hm7 := (zc8 (T := T) f').1 _ _ _ hx7; have HM7 := hid hm7; have HCALL := hid hcall; have w0 := zab _ _ 0 _ _ _ HB6.out.1.hw; have lw0 := zaa HB6.out.1.hw; simp only [zLa, zLb] at w0; clear hcall hx7 hfb7 hrest hm7 hst hst1; subst hst0; go_upto_region 13 with (fail)
       refine HCALL.out.mono ?_; rintro e w8 ⟨rfl, hB8, hb8⟩; have HB7 := hid (show BAt B w8 sa ta fa ra wa gs gf bt T.goes.length b7 /\ zbY B w8 bt T bc cc br cr bg cg /\ Below B w w8 /\ b7.state.length = T.goes.length /\ b7.far.length = T.goes.length /\ ∀ j, 0 <= b7.far.getD j 0 from
        ⟨hB8, HB6.out.2.1.below hb8, HB6.out.2.2.1.trans hb8, HM7.out.1.trans HB6.out.2.2.2.1, HM7.out.2.1.trans HB6.out.2.2.2.2.1, fun j => Int.le_trans (HB6.out.2.2.2.2.2 j) (HM7.out.2.2 j)⟩)
       clear hB8 hb8 k0 k1 k2 k3 k4 lk0 lk1 lk2 lk3 lk4 w0 lw0; have hfb : ∀ j, b7.far.getD j 0 <= 1000000 := fun j => by
        have h1 := (zc8 (T := T) f').2 _ _ _ _ _ HRE3.out; have h2 := (zb2.far b7 i (wk + b7.far.getD m 0)).2.2 j; exact Int.le_trans h2 (Int.le_trans (h1.2.2 j) (HFIN.out j))
       have hn7i := HB7.out.2.2.2.2.2 i; have hn7m := HB7.out.2.2.2.2.2 m; have hb7i := hfb i; have hb7m := hfb m; have x0 := zab _ _ 0 _ _ _ HB7.out.1.hf; simp only [zLa, zLb] at x0; have lx0 := zaa HB7.out.1.hf; have x1 := zax HB7.out.1.rf i _ (zbM (by rw [HB7.out.2.2.2.2.1]; exact hi)); have x2 := zax HB7.out.1.rf m _ (zbM (by rw [HB7.out.2.2.2.2.1]; exact hmn)); have fx := HB7.out.1.rf.frozenAt i; have lgx := (HB7.out.1.rf.lt gf rfl).2; obtain ⟨Fi, hFi⟩ : ∃ y, y = b7.far.getD i 0 := ⟨_, rfl⟩
       obtain ⟨Fm, hFm⟩ : ∃ y, y = b7.far.getD m 0 := ⟨_, rfl⟩; rw [<- hFi] at x1 hn7i hb7i; rw [<- hFm] at x2 hn7m hb7m; have hwrapf : IntKind.i64.wrap (wk + Fm) = wk + Fm := IntWalk.i64_in _ (by omega); have HFI := hid (And.intro hFi hFm); clear hFi hFm hfb; go_upto_region 13 with (fail)
       refine wp_region_noPanic ?_; refine zaA (fun w' => w'.cell? ⟨fa, 0, none⟩ = some (.slice (some ⟨gf, 0, none⟩) T.goes.length T.goes.length) /\ w'.cell? ⟨gf, i, none⟩ = some (.int .i64 Fi) /\ w'.cell? ⟨gf, m, none⟩ = some (.int .i64 Fm)) 14 (by kernel_rfl) ⟨x0, x1, x2⟩ (fun hS0 => ?_); refine zak 0 hS0 ?_; (try simp only [Act.put, lA, lB, lC]); refine zak 1 hS0 ?_; (try simp only [Act.put, lA, lB, lC]); refine zak 2 hS0 ?_; (try simp only [Act.put, lA, lB, lC]); refine zak 3 hS0 ?_; (try simp only [Act.put, lA, lB, lC]); refine zak 4 hS0 ?_; (try simp only [Act.put, lA, lB, lC]); refine zak 5 hS0 ?_; (try simp only [Act.put, lA, lB, lC]); refine zak 6 hS0 ?_; (try simp only [Act.put, lA, lB, lC]); refine zak 7 hS0 ?_; (try simp only [Act.put, lA, lB, lC]); refine zak 8 hS0 ?_; (try simp only [Act.put, lA, lB, lC]); refine zak 9 hS0 ?_; (try simp only [Act.put, lA, lB, lC]); refine zak 10 hS0 ?_; (try simp only [Act.put, lA, lB, lC]); refine zak 11 hS0 ?_; (try simp only [Act.put, lA, lB, lC]); refine zak 12 hS0 ?_; (try simp only [Act.put, lA, lB, lC]); refine zak 13 hS0 ?_; (try simp only [Act.put, lA, lB, lC]); refine zaq 14 (by rfl) (by kernel_rfl) (fun K hK => ?_); go_simp; refine hK.out _ _ (fun h => absurd rfl h) ?_; clear hK K hS0; (try simp only [Act.put, lA, lB, lC]); refine zaP (by kernel_rfl) ?_; refine NoPanic.normal ?_; have h9 := HB7.out.1.drew.setFar i (max Fi (wk + Fm)); have hb9 : Below B w8 (w8.drew.setCell ⟨gf, i, none⟩ (.int .i64 (max Fi (wk + Fm)))) := ((Below.refl B w8).drew).setCell (p := (⟨gf, i, none⟩ : Addr)) hBle.2.1 _
       have ewd : w8.drew.setCell ⟨gf, i, none⟩ (.int .i64 (max Fi (wk + Fm))) = (w8.setCell ⟨gf, i, none⟩ (.int .i64 (max Fi (wk + Fm)))).drew := rfl; rw [ewd] at h9 hb9; clear ewd; generalize (w8.setCell ⟨gf, i, none⟩ (.int .i64 (max Fi (wk + Fm)))).drew = w9 at *; have HB9 := hid (And.intro h9 hb9); clear h9 hb9 x0 lx0 x1 x2 fx lgx hwrapf; go_wp2_with (fail); go_roundw
       case rel =>
        have hrr := HRE3.out; rw [<- HFI.out.1, <- HFI.out.2] at hrr; refine ⟨k + 1, _, by go_num, by omega, HB9.out.1, HB7.out.2.1.below HB9.out.2, ⟨f', by omega, by rw [HD2.out]; exact hrr⟩, HB7.out.2.2.2.1, by simpa using HB7.out.2.2.2.2.1, fun j => ?_, HB7.out.2.2.1.trans HB9.out.2⟩; have h2 := (zb2.far b7 i (wk + b7.far.getD m 0)).2.2 j; rw [<- HFI.out.1, <- HFI.out.2] at h2; exact Int.le_trans (HB7.out.2.2.2.2.2 j) h2
       case measure => (simp [RowKit.intOf] <;> omega)
     rw [if_neg hst0] at hrest
     simp only at hrest; obtain ⟨b7, hb7e⟩ : ∃ b7 : BSt, b7 = b6 := ⟨_, rfl⟩; rw [<- hb7e] at hrest; have HRE3 := hid hrest; have HB7 := HB6; rw [<- hb7e] at HB7; clear hrest hst hb7e; have hfb : ∀ j, b7.far.getD j 0 <= 1000000 := fun j => by
      have h1 := (zc8 (T := T) f').2 _ _ _ _ _ HRE3.out; have h2 := (zb2.far b7 i (wk + b7.far.getD m 0)).2.2 j; exact Int.le_trans h2 (Int.le_trans (h1.2.2 j) (HFIN.out j))
     have hn7i := HB7.out.2.2.2.2.2 i; have hn7m := HB7.out.2.2.2.2.2 m; have hb7i := hfb i; have hb7m := hfb m; have x0 := zab _ _ 0 _ _ _ HB7.out.1.hf; simp only [zLa, zLb] at x0; have lx0 := zaa HB7.out.1.hf; have x1 := zax HB7.out.1.rf i _ (zbM (by rw [HB7.out.2.2.2.2.1]; exact hi)); have x2 := zax HB7.out.1.rf m _ (zbM (by rw [HB7.out.2.2.2.2.1]; exact hmn)); have fx := HB7.out.1.rf.frozenAt i; have lgx := (HB7.out.1.rf.lt gf rfl).2; obtain ⟨Fi, hFi⟩ : ∃ y, y = b7.far.getD i 0 := ⟨_, rfl⟩
     obtain ⟨Fm, hFm⟩ : ∃ y, y = b7.far.getD m 0 := ⟨_, rfl⟩; rw [<- hFi] at x1 hn7i hb7i; rw [<- hFm] at x2 hn7m hb7m; have hwrapf : IntKind.i64.wrap (wk + Fm) = wk + Fm := IntWalk.i64_in _ (by omega); have HFI := hid (And.intro hFi hFm); clear hFi hFm hfb; go_upto_region 13 with (fail)
     refine wp_region_noPanic ?_; refine zaA (fun w' => w'.cell? ⟨fa, 0, none⟩ = some (.slice (some ⟨gf, 0, none⟩) T.goes.length T.goes.length) /\ w'.cell? ⟨gf, i, none⟩ = some (.int .i64 Fi) /\ w'.cell? ⟨gf, m, none⟩ = some (.int .i64 Fm)) 14 (by kernel_rfl) ⟨x0, x1, x2⟩ (fun hS0 => ?_); refine zak 0 hS0 ?_; (try simp only [Act.put, lA, lB, lC]); refine zak 1 hS0 ?_; (try simp only [Act.put, lA, lB, lC]); refine zak 2 hS0 ?_; (try simp only [Act.put, lA, lB, lC]); refine zak 3 hS0 ?_; (try simp only [Act.put, lA, lB, lC]); refine zak 4 hS0 ?_; (try simp only [Act.put, lA, lB, lC]); refine zak 5 hS0 ?_; (try simp only [Act.put, lA, lB, lC]); refine zak 6 hS0 ?_; (try simp only [Act.put, lA, lB, lC]); refine zak 7 hS0 ?_; (try simp only [Act.put, lA, lB, lC]); refine zak 8 hS0 ?_; (try simp only [Act.put, lA, lB, lC]); refine zak 9 hS0 ?_; (try simp only [Act.put, lA, lB, lC]); refine zak 10 hS0 ?_; (try simp only [Act.put, lA, lB, lC]); refine zak 11 hS0 ?_; (try simp only [Act.put, lA, lB, lC]); refine zak 12 hS0 ?_; (try simp only [Act.put, lA, lB, lC]); refine zak 13 hS0 ?_; (try simp only [Act.put, lA, lB, lC]); refine zaq 14 (by rfl) (by kernel_rfl) (fun K hK => ?_); go_simp; refine hK.out _ _ (fun h => absurd rfl h) ?_; clear hK K hS0; (try simp only [Act.put, lA, lB, lC]); refine zaP (by kernel_rfl) ?_; refine NoPanic.normal ?_; have h9 := HB7.out.1.drew.setFar i (max Fi (wk + Fm)); have hb9 : Below B wc (wc.drew.setCell ⟨gf, i, none⟩ (.int .i64 (max Fi (wk + Fm)))) := ((Below.refl B wc).drew).setCell (p := (⟨gf, i, none⟩ : Addr)) hBle.2.1 _
     have ewd : wc.drew.setCell ⟨gf, i, none⟩ (.int .i64 (max Fi (wk + Fm))) = (wc.setCell ⟨gf, i, none⟩ (.int .i64 (max Fi (wk + Fm)))).drew := rfl; rw [ewd] at h9 hb9; clear ewd; generalize (wc.setCell ⟨gf, i, none⟩ (.int .i64 (max Fi (wk + Fm)))).drew = w9 at *; have HB9 := hid (And.intro h9 hb9); clear h9 hb9 x0 lx0 x1 x2 fx lgx hwrapf; go_wp2_with (fail); go_roundw
     case rel =>
      have hrr := HRE3.out; rw [<- HFI.out.1, <- HFI.out.2] at hrr; refine ⟨k + 1, _, by go_num, by omega, HB9.out.1, HB7.out.2.1.below HB9.out.2, ⟨f', by omega, by rw [HD2.out]; exact hrr⟩, HB7.out.2.2.2.1, by simpa using HB7.out.2.2.2.2.1, fun j => ?_, HB7.out.2.2.1.trans HB9.out.2⟩; have h2 := (zb2.far b7 i (wk + b7.far.getD m 0)).2.2 j; rw [<- HFI.out.1, <- HFI.out.2] at h2; exact Int.le_trans (HB7.out.2.2.2.2.2 j) h2
     case measure => (simp [RowKit.intOf] <;> omega)
  have hz : ¬ (k : Int) < (row.length : Int) := by omega
  have hkl : k = row.length := by omega
  obtain ⟨f', hf', hrest⟩ := HS.out.rest; rw [HROW.out.2.1, List.drop_eq_nil_of_le (by omega)] at hrest; cases f' with
  | zero => rw [zbm] at hrest; cases hrest
  | succ f' =>
  rw [zbm] at hrest; cases hrest; have s0 := zab _ _ 0 _ _ _ HS.out.at'.hs; simp only [zLa, zLb] at s0; have lsa := zaa HS.out.at'.hs; have lgs := (HS.out.at'.rs.lt gs rfl).2; have cgs := zax HS.out.at'.rs i _ (zbM (by rw [HS.out.ls]; exact hi)); have fgs := HS.out.at'.rs.frozenAt i; have h9 := HS.out.at'.setState i 2; have hb9 : Below B wr (wr.setCell ⟨gs, i, none⟩ (.int .i64 2)) := (Below.refl B wr).setCell (p := (⟨gs, i, none⟩ : Addr)) hBle.1 _; have HB9 := hid (And.intro h9 hb9); clear h9 hb9 hkl; go_wp2_with (fail)
  go_end0; exact ⟨rfl, HB9.out.1, HS.out.below.trans HB9.out.2⟩
end
section
open Go.RowKit Go.Lib
theorem zjc (n : Nat) (hn : n <= 1000000) (w : World) : (Instr.makeSlice 39 (.int .i64 (n : Int)) (.int .i64 (n : Int))).run Tryz.prog w = .ok (.slice (some ⟨w.heap.size, 0, none⟩) n n) (w.alloc (.cells (nums (List.replicate n 0)).toArray 3)) := by
 obtain ⟨i, h1, h2, h3, h4⟩ := info_parts (P := Tryz.prog) (e := 3) (z := .int .i64 0) (size := 1) (bytes := 8) (by kernel_rfl); have h := run_makeSlice w 39 3 i (.int .i64 0) Tryz.underlying39 h1 h2 .i64 .i64 n n (by omega) (Int.le_refl _) (by rw [h3]; simp; omega) (by rw [h4]; omega) (by omega); have e : madeCells (Value.int .i64 0).cells n = (nums (List.replicate n 0)).toArray := by
  apply Array.ext'; have e1 : (madeCells (Value.int .i64 0).cells n).toList = List.replicate n (.int .i64 0) := toList_madeCells_one _ _; rw [e1]; simp [nums]
 rw [h, h3, Nat.mul_one, Int.toNat_natCast, e]
theorem zgh (w : World) (g n : Nat) (hn : n <= 1000000) (h : w.heap[g]? = some (.cells (nums (List.replicate n 0)).toArray 3 (0, 0))) : w.ownsRow 0 3 1 (.slice (some ⟨g, 0, none⟩) n n) n (nums (List.replicate n 0)) :=
 ⟨by simp [nums], .inr ⟨g, n, _, rfl, Nat.zero_le _, h, Nat.le_refl _, by unfold maxLen; omega, by simp [nums], by rw [Nat.mul_one]; exact List.take_of_length_le (by simp [nums])⟩⟩
theorem zbY.mono {B B' : Nat} {w : World} {bt : Nat} {T : Tab} {bc cc br cr bg cg : Nat} (h : zbY B w bt T bc cc br cr bg cg) (hb : B <= B') : zbY B' w bt T bc cc br cr bg cg :=
 ⟨zLd h.lt hb, h.c0, h.c1, h.c2, h.c3, h.cuts, zLd h.ltc hb, h.rule, zLd h.ltr hb, fun i row hr => by
  obtain ⟨b, c, h1, h2, h3⟩ := h.goes i row hr; exact ⟨b, c, h1, zLd h2 hb, h3⟩, zLd h.ltg hb, h.cap0, h.size⟩
theorem zc5 {T : Tab} {f : Nat} : ∀ (n i : Nat) (best best2 : Int) (b b2 : BSt), zaN T f n i best b = some (best2, b2) -> zb2 b b2
 | 0, i, best, best2, b, b2, h => by rw [zaN] at h; cases h; exact zb2.refl _
 | n + 1, i, best, best2, b, b2, h => by
  rw [zaN] at h; split at h
  . exact zc5 n _ _ _ _ _ h
  split at h
  . cases h
  rename_i b3 e
  have h1 : zb2 b b3 := by
   split at e
   . exact (zc8 f).1 _ _ _ e
   cases e; exact zb2.refl _
  exact h1.trans (zc5 n _ _ _ _ _ h)
structure LpSt (T : Tab) (f : Nat) (best2 : Int) (b2 : BSt) (B : Nat) (w : World) (sa ta fa ra wa gs gf bt bc cc br cr bg cg : Nat) (i : Nat) (best : Int) (b : BSt) (wr : World) : Prop where
 at' : BAt B wr sa ta fa ra wa gs gf bt T.goes.length b
 tab : zbY B wr bt T bc cc br cr bg cg
 rest : zaN T f (T.goes.length - i) i best b = some (best2, b2)
 ls : b.state.length = T.goes.length
 lf : b.far.length = T.goes.length
 nn : ∀ j, 0 <= b.far.getD j 0
 best0 : 0 <= best /\ best <= 1000000
 below : Below B w wr
theorem zaB (w : World) (o : Obj) (k : Nat) (h : k = w.heap.size) : (w.alloc o).heap[k]? = some o := by rw [zap, if_pos h]
theorem zau (w : World) (o : Obj) (k : Nat) (h : k < w.heap.size) : (w.alloc o).heap[k]? = w.heap[k]? := by rw [zap, if_neg (by omega)]
def zdZ (w : World) (bt n S : Nat) : World :=
 ((((((w.alloc (.cells #[zaj bt] 68)).alloc (.cells (nums (List.replicate n 0)).toArray 3)).alloc (.cells #[.slice (some ⟨S + 1, 0, none⟩) n n] 39)).alloc (.cells (nums (List.replicate n 0)).toArray 3)).alloc (.cells #[.slice (some ⟨S + 1 + 1 + 1, 0, none⟩) n n] 39)).alloc (.cells #[.bool false] 4)).alloc
   (.cells #[walkV (S + 1 + 1) S (S + 1 + 1 + 1 + 1) (S + 1 + 1 + 1 + 1 + 1) (S + 1 + 1 + 1 + 1 + 1 + 1)] 153)
theorem world7_at (w : World) (bt n B : Nat) (hn : n <= 1000000) (hB : B <= w.heap.size) :
 BAt B (zdZ w bt n w.heap.size) (w.heap.size + 1 + 1) w.heap.size (w.heap.size + 1 + 1 + 1 + 1) (w.heap.size + 1 + 1 + 1 + 1 + 1) (w.heap.size + 1 + 1 + 1 + 1 + 1 + 1) (w.heap.size + 1) (w.heap.size + 1 + 1 + 1) bt n ⟨List.replicate n 0, List.replicate n 0, false⟩ /\
  Below w.heap.size w (zdZ w bt n w.heap.size) := by
 refine ⟨⟨?_, ?_, ?_, ?_, ?_, zgh _ _ _ hn ?_, zgh _ _ _ hn ?_, by omega, by omega, by omega, by omega⟩, ?_⟩
 . unfold zdZ; rw [zau _ _ _ (by simp <;> omega), zau _ _ _ (by simp <;> omega), zau _ _ _ (by simp <;> omega), zau _ _ _ (by simp <;> omega), zaB _ _ _ (by simp)]
 . unfold zdZ; rw [zau _ _ _ (by simp <;> omega), zau _ _ _ (by simp <;> omega), zau _ _ _ (by simp <;> omega), zau _ _ _ (by simp <;> omega), zau _ _ _ (by simp <;> omega), zau _ _ _ (by simp <;> omega), zaB _ _ _ (by simp)]
 . unfold zdZ; rw [zau _ _ _ (by simp <;> omega), zau _ _ _ (by simp <;> omega), zaB _ _ _ (by simp)]
 . unfold zdZ; rw [zau _ _ _ (by simp <;> omega), zaB _ _ _ (by simp)]
 . unfold zdZ; rw [zaB _ _ _ (by simp)]
 . unfold zdZ; rw [zau _ _ _ (by simp <;> omega), zau _ _ _ (by simp <;> omega), zau _ _ _ (by simp <;> omega), zau _ _ _ (by simp <;> omega), zau _ _ _ (by simp <;> omega), zaB _ _ _ (by simp)]
 . unfold zdZ; rw [zau _ _ _ (by simp <;> omega), zau _ _ _ (by simp <;> omega), zau _ _ _ (by simp <;> omega), zaB _ _ _ (by simp)]
 exact (((((((Below.refl _ w).alloc (Nat.le_refl _) _).alloc (by simp) _).alloc (by simp; omega) _).alloc (by simp; omega) _).alloc (by simp; omega) _).alloc (by simp; omega) _).alloc (by simp; omega) _
theorem bound_any (T : Tab) (R f : Nat) (hT : WfT T R) (best2 : Int) (b2 : BSt) (hl : zaN T f T.goes.length 0 0 ⟨List.replicate T.goes.length 0, List.replicate T.goes.length 0, false⟩ = some (best2, b2)) (hfin : ∀ j, b2.far.getD j 0 <= 1000000)
 (B0 : Nat) (w : World) (bt bc cc br cr bg cg : Nat) (hTab0 : zbY B0 w bt T bc cc br cr bg cg) (hBw0 : B0 <= w.heap.size) :
 Calls Tryz.prog 48 #[zaj bt] w fun e w' => e = .returned (.int .i64 (if b2.round then -1 else best2 + 1)) /\ Below w.heap.size w w' := by
 obtain ⟨B, hB⟩ : ∃ B, B = w.heap.size := ⟨_, rfl⟩; have hTab : zbY B w bt T bc cc br cr bg cg := hTab0.mono (by omega); have hBw : B <= w.heap.size := by omega
 have HBE := hid hB; clear hTab0 hBw0 hB; have hn := hTab.size.2; have hpos := hT.some'; have hmi := zjc T.goes.length (by omega); have g2 := hTab.c2; have lbt : bt < w.heap.size := zLd hTab.lt hBw; have lb1 : bt < w.heap.size + 1 := by omega
 have lb2 : bt < w.heap.size + 1 + 1 := by omega
 have lb3 : bt < w.heap.size + 1 + 1 + 1 := by omega
 have lb4 : bt < w.heap.size + 1 + 1 + 1 + 1 := by omega
 have lb5 : bt < w.heap.size + 1 + 1 + 1 + 1 + 1 := by omega
 have hmf : ∀ (fn : Fn) (first cap : Array Value) (w : World), (Instr.makeFunc fn first cap).run Tryz.prog w = .ok (.func fn first cap) w := fun _ _ _ _ => rfl; have HTAB := hid hTab; have HT := hid hT; have HL := hid hl; have HFIN := hid hfin; clear hTab hT hl hfin; go_enter Tryz.func48, Tryz.ntmps48; go_upto_region 6 with (fail)
 obtain ⟨hB7, hb7⟩ := world7_at w bt T.goes.length B (by omega) hBw; change Code.wp _ _ _ _ (zdZ w bt T.goes.length w.heap.size); have hT7 := HTAB.out.below (zeB hb7 hBw); generalize zdZ w bt T.goes.length w.heap.size = w7 at *; obtain ⟨S, hS⟩ : ∃ S, S = w.heap.size := ⟨_, rfl⟩; rw [<- hS] at hB7 ⊢; generalize hsa : S + 1 + 1 = sa at *; generalize hgs : S + 1 = gs at *; generalize hgf : sa + 1 = gf at *; generalize hfa : gf + 1 = fa at *; generalize hra : fa + 1 = ra at *; generalize hwa : ra + 1 = wa at *
 have hst : LpSt T f best2 b2 B w7 sa S fa ra wa gs gf bt bc cc br cr bg cg 0 0 ⟨List.replicate T.goes.length 0, List.replicate T.goes.length 0, false⟩ w7 :=
  ⟨hB7, hT7, HL.out, by simp, by simp, fun j => by
   rw [zLf]; cases h : (List.replicate T.goes.length (0 : Int))[j]? with
   | none => simp
   | some x => have := List.eq_of_mem_replicate (List.mem_of_getElem? h); simp [this], by omega, Below.refl _ _⟩
 have HST := hid hst; have HB7 := hid hb7; have t0 := zab _ _ 0 _ _ _ hB7.ht; simp only [zLa, zLb] at t0; have lt0 := zaa hB7.ht; have q2 := hT7.c2; have hSw := hb7.size; have lq2 : bt < w7.heap.size := by omega
 have hBS : B <= S := by omega
 clear hst hb7 hB7 hT7 hsa hgs hgf hfa hra hwa hmf hmi g2 lb1 lb2 lb3 lb4 lb5 hSw hS; have hwf0 : B <= w7.heap.size := by omega
 go_wp2_with (fail); go_loopw [7, 27] (fun s7 s27 wr => ∃ (i : Nat) (best : Int) (b : BSt), s27 = .int .i64 i /\ s7 = .int .i64 best /\ i <= T.goes.length /\ LpSt T f best2 b2 B w7 sa S fa ra wa gs gf bt bc cc br cr bg cg i best b wr) (fun _ s27 _ => T.goes.length - (RowKit.intOf s27).toNat)
 case atStart => exact ⟨0, 0, _, rfl, rfl, by omega, HST.out⟩
 case round =>
  obtain ⟨i, best, b, rfl, rfl, hi, hS⟩ := hrel; have HS := hid hS; clear hS HST; by_cases hlt : i < T.goes.length
  . have hz : (i : Int) < (T.goes.length : Int) := by omega
    have hwrapi : IntKind.i64.wrap ((i : Int) + 1) = (i : Int) + 1 := IntWalk.i64_in _ (by omega); have hrest := HS.out.rest; obtain ⟨n', hn'⟩ : ∃ n', T.goes.length - i = n' + 1 := ⟨T.goes.length - i - 1, by omega⟩; rw [hn', zaN] at hrest; have hn2 : n' = T.goes.length - (i + 1) := by omega
    rw [hn2] at hrest; have hrx : ∃ x, T.rule[i]? = some x /\ T.rule.getD i 0 = x := by
     have hl : i < T.rule.length := by rw [HT.out.rules]; exact hlt
     exact ⟨T.rule[i], zLe hl, by rw [zLf, zLe hl]; rfl⟩
    obtain ⟨rx, hrx1, hrx2⟩ := hrx; rw [hrx2] at hrest; have k0 := zab _ _ 0 _ _ _ HS.out.at'.ht; have k1 := HS.out.tab.c1; have k2 := HS.out.tab.rule i rx hrx1; have k3 := zab _ _ 0 _ _ _ HS.out.at'.hs; have k4 := zax HS.out.at'.rs i _ (zbM (by rw [HS.out.ls]; exact hlt)); have k5 := zab _ _ 0 _ _ _ HS.out.at'.hf; have lk0 := zaa HS.out.at'.ht; have lk3 := zaa HS.out.at'.hs; have lk4 := (HS.out.at'.rs.lt gs rfl).2; have lk5 := zaa HS.out.at'.hf; have lwr := HS.out.below.size; have lk1 : bt < wr.heap.size := by omega
    have lk2 : br < wr.heap.size := by have := HS.out.tab.ltr; omega
    simp only [zLa, zLb] at k0 k3 k5; have hrlen : (i : Int) < (T.rule.length : Int) := by rw [HT.out.rules]; omega
    clear hn' hn2 hrx1 hrx2; by_cases hskip : 0 < i /\ rx < 0
    . rw [if_pos hskip] at hrest
      have HRE := hid hrest; have hz0 : (0 : Int) < (i : Int) := by omega
      have hrx0 := hskip.2; clear hrest hskip; go_wp2_with (fail); go_roundw
      case rel => exact ⟨i + 1, best, b, by go_num, rfl, by omega, ⟨HS.out.at', HS.out.tab, HRE.out, HS.out.ls, HS.out.lf, HS.out.nn, HS.out.best0, HS.out.below⟩⟩
      case measure => (simp [RowKit.intOf] <;> omega)
    rw [if_neg hskip] at hrest
    obtain ⟨st, hst⟩ : ∃ y, y = b.state.getD i 0 := ⟨_, rfl⟩; rw [<- hst] at hrest k4; have hcut : (i = 0 /\ ¬ (0 : Int) < (i : Int)) \/ ((0 : Int) < (i : Int) /\ ¬ rx < 0) := by omega
    clear hskip hst; by_cases hst0 : st = 0
    . rw [if_pos hst0] at hrest
      subst hst0; cases hx9 : zeK T f i b with
      | none => rw [hx9] at hrest; cases hrest
      | some b9 =>
      rw [hx9] at hrest; simp only at hrest; have HRE := hid hrest; have hfb9 : ∀ j, b9.far.getD j 0 <= 1000000 := fun j => by
       have h1 := zc5 _ _ _ _ _ _ hrest; exact Int.le_trans (h1.2.2 j) (HFIN.out j)
      have hcall := walk_any T R HT.out f i b b9 B wr sa S fa ra wa gs gf bt bc cc br cr bg cg hx9 HS.out.at' HS.out.tab hlt HS.out.ls HS.out.lf HS.out.nn hfb9; have hm9 := (zc8 (T := T) f).1 _ _ _ hx9; have HM9 := hid hm9; have HCALL := hid hcall; have w0 := zab _ _ 0 _ _ _ HS.out.at'.hw; have lw0 := zaa HS.out.at'.hw; simp only [zLa, zLb] at w0; clear hcall hx9 hfb9 hrest hm9
      rcases hcut with ⟨hi0, hc⟩ | ⟨hc, hrn⟩
      . have HI0 := hid hi0
        clear hi0; go_upto_region 13 with (fail)
        refine HCALL.out.mono ?_; rintro e w8 ⟨rfl, hB8, hb8⟩; have HB9 := hid (show BAt B w8 sa S fa ra wa gs gf bt T.goes.length b9 /\ zbY B w8 bt T bc cc br cr bg cg /\ Below B w7 w8 /\ b9.state.length = T.goes.length /\ b9.far.length = T.goes.length /\ (∀ j, 0 <= b9.far.getD j 0) /\ True from
         ⟨hB8, HS.out.tab.below hb8, HS.out.below.trans hb8, HM9.out.1.trans HS.out.ls, HM9.out.2.1.trans HS.out.lf, fun j => Int.le_trans (HS.out.nn j) (HM9.out.2.2 j), trivial⟩)
        clear hB8 hb8 k0 k1 k2 k3 k4 k5 lk0 lk1 lk2 lk3 lk4 lk5 w0 lw0; have hfb : 0 <= b9.far.getD i 0 /\ b9.far.getD i 0 <= 1000000 := ⟨HB9.out.2.2.2.2.2.1 i, by
         have h1 := zc5 _ _ _ _ _ _ HRE.out; exact Int.le_trans (h1.2.2 i) (HFIN.out i)⟩
        have x0 := zab _ _ 0 _ _ _ HB9.out.1.hf; simp only [zLa, zLb] at x0; have lx0 := zaa HB9.out.1.hf; have x1 := zax HB9.out.1.rf i _ (zbM (by rw [HB9.out.2.2.2.2.1]; exact hlt)); have lx1 := (HB9.out.1.rf.lt gf rfl).2; obtain ⟨Fi, hFi⟩ : ∃ y, y = b9.far.getD i 0 := ⟨_, rfl⟩; rw [<- hFi] at x1 hfb; have HFI := hid hFi; have hb0 := HS.out.best0; have HRE9 := hid (show zaN T f (T.goes.length - (i + 1)) (i + 1) (max best Fi) b9 = some (best2, b2) by rw [hFi]; exact HRE.out); clear hFi; go_wp2_with (fail); go_roundw
        case rel => exact ⟨i + 1, max best Fi, b9, by go_num, rfl, by omega, ⟨HB9.out.1, HB9.out.2.1, HRE9.out, HB9.out.2.2.2.1, HB9.out.2.2.2.2.1, HB9.out.2.2.2.2.2.1, by omega, HB9.out.2.2.1⟩⟩
        case measure => (simp [RowKit.intOf] <;> omega)
      go_upto_region 13 with (fail)
      refine HCALL.out.mono ?_; rintro e w8 ⟨rfl, hB8, hb8⟩; have HB9 := hid (show BAt B w8 sa S fa ra wa gs gf bt T.goes.length b9 /\ zbY B w8 bt T bc cc br cr bg cg /\ Below B w7 w8 /\ b9.state.length = T.goes.length /\ b9.far.length = T.goes.length /\ (∀ j, 0 <= b9.far.getD j 0) /\ True from
       ⟨hB8, HS.out.tab.below hb8, HS.out.below.trans hb8, HM9.out.1.trans HS.out.ls, HM9.out.2.1.trans HS.out.lf, fun j => Int.le_trans (HS.out.nn j) (HM9.out.2.2 j), trivial⟩)
      clear hB8 hb8 k0 k1 k2 k3 k4 k5 lk0 lk1 lk2 lk3 lk4 lk5 w0 lw0; have hfb : 0 <= b9.far.getD i 0 /\ b9.far.getD i 0 <= 1000000 := ⟨HB9.out.2.2.2.2.2.1 i, by
       have h1 := zc5 _ _ _ _ _ _ HRE.out; exact Int.le_trans (h1.2.2 i) (HFIN.out i)⟩
      have x0 := zab _ _ 0 _ _ _ HB9.out.1.hf; simp only [zLa, zLb] at x0; have lx0 := zaa HB9.out.1.hf; have x1 := zax HB9.out.1.rf i _ (zbM (by rw [HB9.out.2.2.2.2.1]; exact hlt)); have lx1 := (HB9.out.1.rf.lt gf rfl).2; obtain ⟨Fi, hFi⟩ : ∃ y, y = b9.far.getD i 0 := ⟨_, rfl⟩; rw [<- hFi] at x1 hfb; have HFI := hid hFi; have hb0 := HS.out.best0; have HRE9 := hid (show zaN T f (T.goes.length - (i + 1)) (i + 1) (max best Fi) b9 = some (best2, b2) by rw [hFi]; exact HRE.out); clear hFi; go_wp2_with (fail); go_roundw
      case rel => exact ⟨i + 1, max best Fi, b9, by go_num, rfl, by omega, ⟨HB9.out.1, HB9.out.2.1, HRE9.out, HB9.out.2.2.2.1, HB9.out.2.2.2.2.1, HB9.out.2.2.2.2.2.1, by omega, HB9.out.2.2.1⟩⟩
      case measure => (simp [RowKit.intOf] <;> omega)
    rw [if_neg hst0] at hrest
    simp only at hrest; obtain ⟨b9, hb9⟩ : ∃ b9 : BSt, b9 = b := ⟨_, rfl⟩; rw [<- hb9] at hrest; have HRE := hid hrest; have HB9 := hid (show BAt B wr sa S fa ra wa gs gf bt T.goes.length b9 /\ zbY B wr bt T bc cc br cr bg cg /\ Below B w7 wr /\ b9.state.length = T.goes.length /\ b9.far.length = T.goes.length /\ (∀ j, 0 <= b9.far.getD j 0) /\ True from
     by rw [hb9]; exact ⟨HS.out.at', HS.out.tab, HS.out.below, HS.out.ls, HS.out.lf, HS.out.nn, trivial⟩)
    clear hrest hb9
    rcases hcut with ⟨hi0, hc⟩ | ⟨hc, hrn⟩
    . have HI0 := hid hi0
      clear hi0; have hfb : 0 <= b9.far.getD i 0 /\ b9.far.getD i 0 <= 1000000 := ⟨HB9.out.2.2.2.2.2.1 i, by
       have h1 := zc5 _ _ _ _ _ _ HRE.out; exact Int.le_trans (h1.2.2 i) (HFIN.out i)⟩
      have x0 := zab _ _ 0 _ _ _ HB9.out.1.hf; simp only [zLa, zLb] at x0; have lx0 := zaa HB9.out.1.hf; have x1 := zax HB9.out.1.rf i _ (zbM (by rw [HB9.out.2.2.2.2.1]; exact hlt)); have lx1 := (HB9.out.1.rf.lt gf rfl).2; obtain ⟨Fi, hFi⟩ : ∃ y, y = b9.far.getD i 0 := ⟨_, rfl⟩; rw [<- hFi] at x1 hfb; have HFI := hid hFi; have hb0 := HS.out.best0; have HRE9 := hid (show zaN T f (T.goes.length - (i + 1)) (i + 1) (max best Fi) b9 = some (best2, b2) by rw [hFi]; exact HRE.out); clear hFi; go_wp2_with (fail); go_roundw
      case rel => exact ⟨i + 1, max best Fi, b9, by go_num, rfl, by omega, ⟨HB9.out.1, HB9.out.2.1, HRE9.out, HB9.out.2.2.2.1, HB9.out.2.2.2.2.1, HB9.out.2.2.2.2.2.1, by omega, HB9.out.2.2.1⟩⟩
      case measure => (simp [RowKit.intOf] <;> omega)
    skip
    have hfb : 0 <= b9.far.getD i 0 /\ b9.far.getD i 0 <= 1000000 := ⟨HB9.out.2.2.2.2.2.1 i, by
     have h1 := zc5 _ _ _ _ _ _ HRE.out; exact Int.le_trans (h1.2.2 i) (HFIN.out i)⟩
    have x0 := zab _ _ 0 _ _ _ HB9.out.1.hf; simp only [zLa, zLb] at x0; have lx0 := zaa HB9.out.1.hf; have x1 := zax HB9.out.1.rf i _ (zbM (by rw [HB9.out.2.2.2.2.1]; exact hlt)); have lx1 := (HB9.out.1.rf.lt gf rfl).2; obtain ⟨Fi, hFi⟩ : ∃ y, y = b9.far.getD i 0 := ⟨_, rfl⟩; rw [<- hFi] at x1 hfb; have HFI := hid hFi; have hb0 := HS.out.best0; have HRE9 := hid (show zaN T f (T.goes.length - (i + 1)) (i + 1) (max best Fi) b9 = some (best2, b2) by rw [hFi]; exact HRE.out); clear hFi; go_wp2_with (fail); go_roundw
    case rel => exact ⟨i + 1, max best Fi, b9, by go_num, rfl, by omega, ⟨HB9.out.1, HB9.out.2.1, HRE9.out, HB9.out.2.2.2.1, HB9.out.2.2.2.2.1, HB9.out.2.2.2.2.2.1, by omega, HB9.out.2.2.1⟩⟩
    case measure => (simp [RowKit.intOf] <;> omega)
  have hz : ¬ (i : Int) < (T.goes.length : Int) := by omega
  have hrest := HS.out.rest; rw [show T.goes.length - i = 0 by omega, zaN] at hrest; cases hrest; have r0 := zab _ _ 0 _ _ _ HS.out.at'.hr; have lr0 := zaa HS.out.at'.hr; simp only [zLa, zLb] at r0; have hb0 := HS.out.best0; have hwrapb : IntKind.i64.wrap (best2 + 1) = best2 + 1 := IntWalk.i64_in _ (by omega); have hbel : Below w.heap.size w wr := by
   have h1 := HS.out.below; rw [HBE.out] at h1; exact HB7.out.trans h1
  cases hrd : b2.round with
  | true =>
   rw [hrd] at r0; have HRD := hid hrd; clear hrd; go_wp2_with (fail)
   all_goals (go_ret; refine ⟨?_, hbel⟩; first | rfl | (simp [Act.eval]; done) | (have hq := HRD.out; simp_all; done))
  | false =>
   rw [hrd] at r0; have HRD := hid hrd; clear hrd; go_wp2_with (fail)
   all_goals (go_ret; refine ⟨?_, hbel⟩; first | rfl | (simp [Act.eval]; done) | (have hq := HRD.out; simp_all; done))
end
section
open Go.RowKit Go.Lib
open Go.WideMaps (KeyLaw ArrKey keyOf_pair)
open Go.ChangeMaps (setBlock heap_setBlock_same)
theorem setLaid : laidOutB Tryz.prog = true := by kernel_rfl
theorem setRow : (147 : TypeId) < Tryz.prog.types.size := of_decide_eq_true (by kernel_rfl)
theorem setArr : ArrKey Tryz.prog 147 145 2 := ⟨Tryz.underlying147, by kernel_rfl, by kernel_rfl, by kernel_rfl⟩
theorem ziR : KeyLaw Tryz.prog 147 := deep_law_laid setLaid (m := 2) (by omega) setRow (by kernel_rfl) (by rw [Tryz.underlying147])
theorem setWf (a : Nat) (h : a < W64) : (Lit.int .u64 (a : Int)).wf = true := by
 have h0 : IntKind.u64.min = 0 := by decide
 have h1 : IntKind.u64.max = 18446744073709551615 := by decide
 simp [Lit.wf, W64, h0, h1] at *; omega
theorem setKey (s : Set2) (h : s.Ok) : ∃ l, keyOf Tryz.prog 147 (setV s) = some l :=
 ⟨_, keyOf_pair setArr Tryz.underlying145 ⟨_, rfl⟩ (setWf s.1 h.1) (setWf s.2 h.2)⟩
theorem zj0 {s o : Set2} (h : setV s = setV o) : s = o := by
 unfold setV at h; simp only [Value.agg.injEq, Array.mk.injEq, List.cons.injEq, Value.int.injEq, true_and, and_true] at h; exact Prod.ext (by omega) (by omega)
def MpAt (w : World) (b : Nat) (sets : List Set2) : Prop := ∃ es clock, w.heap[b]? = some (.map es clock) /\ es.size = sets.length /\ ∀ (j : Nat) (e : MapEntry), es.toList[j]? = some e -> ∃ s, sets[j]? = some s /\ e.key = setV s /\ e.val = .int .i64 j
theorem MpAt.keys {es : Array MapEntry} {sets : List Set2} (hok : ∀ s ∈ sets, s.Ok) (h : ∀ (j : Nat) (e : MapEntry), es.toList[j]? = some e -> ∃ s, sets[j]? = some s /\ e.key = setV s /\ e.val = .int .i64 j) : ∀ e ∈ es.toList, ∃ l, keyOf Tryz.prog 147 e.key = some l := by
 intro e he; obtain ⟨j, hj⟩ := List.getElem?_of_mem he; obtain ⟨s, hs, hk, _⟩ := h j e hj; rw [hk]; exact setKey s (hok s (List.mem_of_getElem? hs))
theorem zero_int (w : World) : (zeroValue 3).run Tryz.prog w = .ok (.int .i64 0) w := by kernel_rfl
theorem map_look {w : World} {b : Nat} {sets : List Set2} (h : MpAt w b sets) (hok : ∀ s ∈ sets, s.Ok) (hnd : sets.Nodup) (to' : Set2) (ht : to'.Ok) :
 (Instr.lookup 154 (.map (some b)) (setV to') true).run Tryz.prog w = .ok (.tuple #[.int .i64 (((sets.findIdx? (fun x => decide (x = to'))).getD 0 : Nat) : Int), .bool (sets.findIdx? (fun x => decide (x = to'))).isSome]) w := by
 obtain ⟨es, clock, hb, hsz, hen⟩ := h; obtain ⟨kl, hkey⟩ := setKey to' ht; have hu := Tryz.underlying154
 rcases ziR.find w hkey es.toList (MpAt.keys hok hen) with ⟨h1, h2⟩ | ⟨j, e0, h1, h2, h3⟩
 . have hnone : sets.findIdx? (fun x => decide (x = to')) = none := by
    rw [List.findIdx?_eq_none_iff]; intro x hx; rw [decide_eq_false_iff_not]; intro e; obtain ⟨j, hj⟩ := List.getElem?_of_mem hx; have hlt : j < es.size := by rw [hsz]; exact (List.getElem?_eq_some_iff.1 hj).1
    obtain ⟨s, hs, hk, _⟩ := hen j es[j] (by simp [hlt]); rw [hj] at hs; cases hs; exact h2 es[j] (by simp) (by rw [hk, e])
   rw [hnone]; simp [Instr.lookup, run_underlying hu, MapKept.run_getObj_map hb, ziR.check w _ hkey, h1, zero_int, Result.andThen]
 obtain ⟨s, hs, hk, hv⟩ := hen j e0 h2
 have hst : s = to' := zj0 (by rw [<- hk, h3]); subst hst; have hsome : sets.findIdx? (fun x => decide (x = s)) = some j := by
  obtain ⟨hjl, hje⟩ := List.getElem?_eq_some_iff.1 hs; rw [List.findIdx?_eq_some_iff_getElem]; refine ⟨hjl, by simp [hje], fun i hi => ?_⟩; rw [decide_eq_true_eq]; intro e; exact absurd (e.trans hje.symm) ((List.pairwise_iff_getElem.1 hnd) i j (by omega) hjl hi)
 rw [hsome]; simp [Instr.lookup, run_underlying hu, MapKept.run_getObj_map hb, ziR.check w _ hkey, h1, hv, Result.andThen]
theorem map_put {w : World} {b : Nat} {sets : List Set2} (h : MpAt w b sets) (hok : ∀ s ∈ sets, s.Ok) (to' : Set2) (ht : to'.Ok) (hnew : sets.findIdx? (fun x => decide (x = to')) = none) :
 ∃ w', (Instr.mapUpdate 154 (.map (some b)) (setV to') (.int .i64 (sets.length : Int))).run Tryz.prog w = .ok () w' /\ MpAt w' b (sets ++ [to']) /\ w.grownBy w' (some b) := by
 obtain ⟨es, clock, hb, hsz, hen⟩ := h; obtain ⟨kl, hkey⟩ := setKey to' ht; have hu := Tryz.underlying154; rw [List.findIdx?_eq_none_iff] at hnew
 rcases ziR.find w hkey es.toList (MpAt.keys hok hen) with ⟨h1, h2⟩ | ⟨j, e0, h1, h2, h3⟩
 . refine ⟨setBlock w b (.map (es.push ⟨setV to', .int .i64 (sets.length : Int), clock⟩) (clock + 1)), ?_, ⟨_, _, heap_setBlock_same hb _, by simp [hsz], fun j e he => ?_⟩, ⟨rfl, rfl, rfl, by simp [setBlock], fun i _ hi => Go.ChangeMaps.heap_setBlock_other hb _ (fun e => hi (by rw [e]))⟩⟩
   . simp [Instr.mapUpdate, run_underlying hu, MapKept.run_getObj_map hb, ziR.check w _ hkey, h1, MapKept.run_setObj_map _ hb, Result.andThen, setBlock]
   rw [Array.toList_push] at he
   rcases Nat.lt_or_ge j es.size with hl | hl
   . rw [List.getElem?_append_left (by simpa using hl)] at he
     obtain ⟨s, h1, h2, h3⟩ := hen j e he; exact ⟨s, by rw [List.getElem?_append_left (by omega)]; exact h1, h2, h3⟩
   rw [List.getElem?_append_right (by simpa using hl)] at he
   have hj : j = es.size := by
    rcases Nat.eq_zero_or_pos (j - es.toList.length) with h0 | h0
    . simp at h0; omega
    rw [List.getElem?_eq_none (by simp at *; omega)] at he; cases he
   subst hj; simp at he; subst he; exact ⟨to', by rw [hsz]; simp, rfl, by rw [hsz]⟩
 exfalso
 obtain ⟨s, hs, hk, hv⟩ := hen j e0 h2; have hst : s = to' := zj0 (by rw [<- hk, h3]); have := hnew s (List.mem_of_getElem? hs); simp [hst] at this
theorem map_new (w : World) : MpAt (w.alloc (.map #[] 0)) w.heap.size [] := ⟨#[], 0, by rw [zap, if_pos rfl], rfl, fun j e he => by simp at he⟩
theorem MpAt.kept {w w' : World} {b : Nat} {sets : List Set2} (h : MpAt w b sets) (hx : w'.heap[b]? = w.heap[b]?) : MpAt w' b sets := by
 obtain ⟨es, clock, h1, h2, h3⟩ := h; exact ⟨es, clock, hx.trans h1, h2, h3⟩
end
end Go.Proofs.YtghpmhllpaheiaaGreatDoor
