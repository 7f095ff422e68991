/-
  Part of the proof: Cut, Rest. No condition beyond those in the statements.
-/
import Derived.Test.YtghpmhllpaheiaaGreatDoorL00
import Derived.Test.YtghpmhllpaheiaaGreatDoorL01
set_option linter.unusedVariables false
set_option linter.unusedSimpArgs false
set_option maxRecDepth 100000
set_option maxHeartbeats 1000000
namespace Go.Proofs.YtghpmhllpaheiaaGreatDoor
section
open Go.RowKit Go.Lib
def flat (l : List (Int × Int)) : List Value := l.flatMap fun x => [.int .i32 x.1, .int .i32 x.2]
theorem zib (l : List (Int × Int)) : (flat l).length = l.length * 2 := by
 induction l with
 | nil => rfl
 | cons x l ih => simp only [flat, List.flatMap_cons, List.length_append, List.length_cons] at *; simp at *; omega
theorem zkz (l m : List (Int × Int)) : flat (l ++ m) = flat l ++ flat m := by simp [flat]
theorem zfX (l : List (Int × Int)) (k : Nat) (x : Int × Int) (h : l[k]? = some x) : (flat l)[k * 2]? = some (.int .i32 x.1) /\ (flat l)[k * 2 + 1]? = some (.int .i32 x.2) := by
 induction l generalizing k with
 | nil => simp at h
 | cons y l ih =>
  cases k with
  | zero => simp at h; subst h; exact ⟨rfl, rfl⟩
  | succ k =>
   simp at h; have := ih k h; have e : flat (y :: l) = .int .i32 y.1 :: .int .i32 y.2 :: flat l := rfl; rw [e, show (k + 1) * 2 = k * 2 + 1 + 1 from by omega]; simpa using this
theorem zcG : zcp Tryz.prog 200 210 2 8 :=
 zcp.of (z := .agg #[.int .i32 0, .int .i32 0]) Tryz.underlying200 (by kernel_rfl) rfl (by decide)
def cut1 (x r : Int × Int) : List (Int × Int) :=
 if x.2 < r.1 \/ x.1 > r.2 then [x] else (if x.1 < r.1 then [(x.1, r.1 - 1)] else []) ++ (if x.2 > r.2 then [(r.2 + 1, x.2)] else [])
theorem zdu (l : List (Int × Int)) (x r : Int × Int) : cutP (l ++ [x]) r = cutP l r ++ cut1 x r := by
 simp [cutP, cut1]
theorem zjX (x r : Int × Int) : (cut1 x r).length <= 2 := by
 unfold cut1
 (repeat' split) <;> simp
theorem cutP_len (l : List (Int × Int)) (r : Int × Int) : (cutP l r).length <= 2 * l.length := by
 induction l with
 | nil => simp [cutP]
 | cons x l ih =>
  have e : cutP (x :: l) r = cut1 x r ++ cutP l r := by simp [cutP, cut1]
  have := zjX x r; rw [e, List.length_append, List.length_cons]; omega
def zeF (l : List (Int × Int)) : Prop := ∀ x ∈ l, 0 <= x.1 /\ x.1 <= 1114111 /\ 0 <= x.2 /\ x.2 <= 1114111
def zbq (w : World) (v : Value) (l : List (Int × Int)) : Prop := w.ownsRow 0 210 2 v l.length (flat l)
theorem zdp {w : World} {v : Value} {l : List (Int × Int)} {x1 x2 : Int} (h : w.ownsRow 0 210 2 v (l.length + 1) (flat l ++ [.int .i32 x1, .int .i32 x2])) : zbq w v (l ++ [(x1, x2)]) := by
 unfold zbq; rw [zkz, List.length_append]; exact h
theorem zc0 {W w1 w2 : World} {v v' : Value} {bx : Obj} {B : Nat} (hB : Below B W w1) (hsz : B < w1.heap.size) (hbx : w1.heap[B]? = some bx) (hv : ∀ g, v.ownBlock = some g -> B < g)
 (hg : w1.grownBy w2 v.ownBlock) (hb : v'.ownBlock = v.ownBlock \/ v'.ownBlock = some w1.heap.size) : (∀ g, v'.ownBlock = some g -> B < g) /\ w2.heap[B]? = some bx /\ Below B W w2 /\ B < w2.heap.size := by
 refine ⟨fun g hg' => ?_, zeu hg hbx (fun e => by have := hv _ e; omega), hB.grown hg (by omega) (fun k hk => by have := hv _ hk; omega), zLd hsz hg.size⟩
 rcases hb with hb | hb
 . exact hv g (by rw [<- hb]; exact hg')
 rw [hb] at hg'; cases hg'; omega
theorem za4 {W w1 : World} {bx : Obj} {B : Nat} (hB : Below B W w1) (hsz : B < w1.heap.size) (hbx : w1.heap[B]? = some bx) (o : Obj) : Below B W (w1.alloc o) /\ B < (w1.alloc o).heap.size /\ (w1.alloc o).heap[B]? = some bx :=
 ⟨hB.alloc (by omega) _, by simp; omega, by rw [zap, if_neg (by omega)]; exact hbx⟩
theorem zcJ {wr w' : World} {v p q a b : Value} {n B : Nat} {xs : List Value} {o2 : Obj} (hrow : wr.ownsRow 0 210 2 v n xs)
 (hgr : ((wr.alloc (.cells #[p, q] 210)).alloc o2).grownBy w' v.ownBlock) (hbx : wr.heap[B]? = some (.cells #[a, b] 210 (0, 0))) (hv : ∀ g, v.ownBlock = some g -> B < g) :
 w'.cell? ⟨wr.heap.size, 0, none⟩ = some p /\ w'.cell? ⟨wr.heap.size, 1, none⟩ = some q /\ w'.cell? ⟨B, 0, none⟩ = some a /\ w'.cell? ⟨B, 1, none⟩ = some b := by
 have hB := zaa hbx; have h1 : ((wr.alloc (.cells #[p, q] 210)).alloc o2).heap[wr.heap.size]? = some (.cells #[p, q] 210 (0, 0)) := by
  rw [zap, if_neg (by simp), zap, if_pos rfl]
 have h2 : ((wr.alloc (.cells #[p, q] 210)).alloc o2).heap[B]? = some (.cells #[a, b] 210 (0, 0)) := by
  rw [zap, if_neg (by simp; omega), zap, if_neg (by omega)]; exact hbx
 have k1 := zeu hgr h1 (fun e => by have := (hrow.lt _ e).2; omega); have k2 := zeu hgr h2 (fun e => by have := hv _ e; omega); exact ⟨zab w' _ 0 _ _ _ k1, zab w' _ 1 _ _ _ k1, zab w' _ 0 _ _ _ k2, zab w' _ 1 _ _ _ k2⟩
theorem cut_any (v : Value) (l : List (Int × Int)) (a b : Int) (w : World) (hc : zbq w v l) (hl : l.length <= 1000) (hr : zeF l) (ha : 0 <= a) (ha' : a <= 1114111) (hb : 0 <= b) (hb' : b <= 1114111) :
 Calls Tryz.prog 171 #[v, .agg #[.int .i32 a, .int .i32 b]] w fun r w' => ∃ v', r = .returned v' /\ zbq w' v' (cutP l (a, b)) /\ (∀ g, v'.ownBlock = some g -> w.heap.size <= g) /\ Below w.heap.size w w' := by
 have HC := hid hc; have HR := hid hr
 rcases zaG hc with ⟨rfl, hn⟩ | ⟨g, cap, rfl, hcap, hg⟩
 . have hl0 : l = [] := List.eq_nil_of_length_eq_zero hn
   subst hl0; go_enter Tryz.func171, Tryz.ntmps171; go_wp2; refine wp_loop_rounds 1 ?_; rw [rounds_succ]; go_wp2; go_ret; exact ⟨_, rfl, zdj _ _ _, fun g h => by simp [Value.ownBlock] at h, (Below.refl _ w).alloc (Nat.le_refl _) _⟩
 have hlz : (l.length : Int) <= 1000 := by omega
 clear hc hr; go_enter Tryz.func171, Tryz.ntmps171; go_wp2; have hb0 : (w.alloc (.cells #[.int .i32 a, .int .i32 b] 210)).heap[w.heap.size]? = some (.cells #[.int .i32 a, .int .i32 b] 210 (0, 0)) := by rw [zap, if_pos rfl]
 have hB0 : Below w.heap.size w (w.alloc (.cells #[.int .i32 a, .int .i32 b] 210)) := (Below.refl _ w).alloc (Nat.le_refl _) _; generalize w.alloc (.cells #[.int .i32 a, .int .i32 b] 210) = W0 at *; go_loopw [4, 9] (fun o i wr => ∃ (k : Nat), k <= l.length /\ i = .int .i64 k /\ zbq wr o (cutP (l.take k) (a, b)) /\ (∀ g, o.ownBlock = some g -> w.heap.size < g) /\ wr.heap[w.heap.size]? = some (.cells #[.int .i32 a, .int .i32 b] 210 (0, 0)) /\ Below w.heap.size w wr) (fun _ i _ => l.length - (RowKit.intOf i).toNat)
 case atStart => exact ⟨0, by omega, rfl, zdj _ _ _, fun g h => by simp [Value.ownBlock] at h, hb0, hB0⟩
 case round =>
  obtain ⟨k, hk, rfl, hrow, hfr, hbx, hB⟩ := hrel; by_cases hlt : k < l.length
  . have hz : (k : Int) < (l.length : Int) := by omega
    obtain ⟨x, hx⟩ : ∃ x, l[k]? = some x := ⟨l[k], zLe hlt⟩; obtain ⟨f0, f1⟩ := zfX l k x hx; have c0 := zax (za6 HC.out hB) _ _ f0; have c1 := zax (za6 HC.out hB) _ _ f1; have b0 := zab wr w.heap.size 0 _ _ _ hbx; have b1 := zab wr w.heap.size 1 _ _ _ hbx; simp only [zLa, zLb, zLc] at b0 b1; have hltw : w.heap.size < wr.heap.size := zaa hbx; have hxr := HR.out x (List.mem_of_getElem? hx); obtain ⟨x1, x2⟩ := x; simp only at c0 c1 hxr; have HROW := hid hrow
    have HBX := hid hbx; have HB := hid hB; have HX := hid hx; have HFR := hid hfr; clear hrow hbx hB hx f0 f1 hfr; have hlen := cutP_len (l.take k) (a, b); have hlk : (l.take k).length <= 1000 := by rw [List.length_take]; omega
    by_cases d1 : x2 < a
    . go_wp2_with (at_builtin; refine zan _ rfl _ _ rfl zcG _ _ _ rfl (by exact (HROW.out.alloc _).alloc _) ⟨wr.heap.size + 1, 0, none⟩ 1 1 [Value.int .i32 x1, Value.int .i32 x2] rfl rfl (zaD _ #[Value.int .i32 x1, Value.int .i32 x2] _ _ (by simp)) (by simp [Value.oneCell']) (by decide) (by omega) (by decide) ?_; intro v' w' hrow' hgr' hbl'; obtain ⟨q0, q1, q2, q3⟩ := zcJ HROW.out hgr' HBX.out HFR.out)
      have hsn : l.take (k + 1) = l.take k ++ [(x1, x2)] := by rw [List.take_add_one, HX.out]; rfl
      have hc1 : cut1 (x1, x2) (a, b) = [(x1, x2)] := by unfold cut1; rw [if_pos (.inl d1)]
      obtain ⟨a1, a2, a3⟩ := za4 HB.out hltw HBX.out (.cells #[Value.int .i32 x1, Value.int .i32 x2] 210); obtain ⟨a4, a5, a6⟩ := za4 a1 a2 a3 (.cells #[Value.int .i32 x1, Value.int .i32 x2] 210); obtain ⟨s1, s2, s3, s4⟩ := zc0 a4 a5 a6 HFR.out hgr' hbl'; go_roundw
      case rel =>
       refine ⟨k + 1, by omega, by go_num, ?_, s1, s2, s3⟩; rw [hsn, zdu, hc1]; exact zdp hrow'
      case measure => simp [RowKit.intOf]; omega
    by_cases d2 : b < x1
    . go_wp2_with (at_builtin; refine zan _ rfl _ _ rfl zcG _ _ _ rfl (by exact (HROW.out.alloc _).alloc _) ⟨wr.heap.size + 1, 0, none⟩ 1 1 [Value.int .i32 x1, Value.int .i32 x2] rfl rfl (zaD _ #[Value.int .i32 x1, Value.int .i32 x2] _ _ (by simp)) (by simp [Value.oneCell']) (by decide) (by omega) (by decide) ?_; intro v' w' hrow' hgr' hbl'; obtain ⟨q0, q1, q2, q3⟩ := zcJ HROW.out hgr' HBX.out HFR.out)
      have hsn : l.take (k + 1) = l.take k ++ [(x1, x2)] := by rw [List.take_add_one, HX.out]; rfl
      have hc1 : cut1 (x1, x2) (a, b) = [(x1, x2)] := by unfold cut1; rw [if_pos (.inr d2)]
      obtain ⟨a1, a2, a3⟩ := za4 HB.out hltw HBX.out (.cells #[Value.int .i32 x1, Value.int .i32 x2] 210); obtain ⟨a4, a5, a6⟩ := za4 a1 a2 a3 (.cells #[Value.int .i32 x1, Value.int .i32 x2] 210); obtain ⟨s1, s2, s3, s4⟩ := zc0 a4 a5 a6 HFR.out hgr' hbl'; go_roundw
      case rel =>
       refine ⟨k + 1, by omega, by go_num, ?_, s1, s2, s3⟩; rw [hsn, zdu, hc1]; exact zdp hrow'
      case measure => simp [RowKit.intOf]; omega
    by_cases e1 : x1 < a
    . by_cases e2 : b < x2
      . go_wp2_with (first | (at_builtin; refine zan _ rfl _ _ rfl zcG _ _ _ rfl (by exact (HROW.out.alloc _).alloc _) ⟨wr.heap.size + 1, 0, none⟩ 1 1 [Value.int .i32 x1, Value.int .i32 (a - 1)] rfl rfl (zaD _ #[Value.int .i32 x1, Value.int .i32 (a - 1)] _ _ (by simp)) (by simp [Value.oneCell']) (by decide) (by omega) (by decide) ?_; intro v' w' hrow' hgr' hbl'; obtain ⟨q0, q1, q2, q3⟩ := zcJ HROW.out hgr' HBX.out HFR.out) | (at_builtin; refine zan _ rfl _ _ rfl zcG _ _ _ rfl (by exact hrow'.alloc _) ⟨w'.heap.size, 0, none⟩ 1 1 [Value.int .i32 (b + 1), Value.int .i32 x2] rfl rfl (zaD _ #[Value.int .i32 (b + 1), Value.int .i32 x2] _ _ (by simp)) (by simp [Value.oneCell']) (by decide) (by omega) (by decide) ?_; intro v2 w2 hrow2 hgr2 hbl2))
        have hsn : l.take (k + 1) = l.take k ++ [(x1, x2)] := by rw [List.take_add_one, HX.out]; rfl
        have hc1 : cut1 (x1, x2) (a, b) = [(x1, a - 1), (b + 1, x2)] := by unfold cut1; rw [if_neg (by omega), if_pos e1, if_pos e2]; rfl
        obtain ⟨a1, a2, a3⟩ := za4 HB.out hltw HBX.out (.cells #[Value.int .i32 x1, Value.int .i32 x2] 210); obtain ⟨a4, a5, a6⟩ := za4 a1 a2 a3 (.cells #[Value.int .i32 x1, Value.int .i32 (a - 1)] 210); obtain ⟨s1, s2, s3, s4⟩ := zc0 a4 a5 a6 HFR.out hgr' hbl'; obtain ⟨a7, a8, a9⟩ := za4 s3 s4 s2 (.cells #[Value.int .i32 (b + 1), Value.int .i32 x2] 210); obtain ⟨t1, t2, t3, t4⟩ := zc0 a7 a8 a9 s1 hgr2 hbl2; go_roundw
        case rel =>
         refine ⟨k + 1, by omega, by go_num, ?_, t1, t2, t3⟩; rw [hsn, zdu, hc1]; have h2 := zdp (l := cutP (l.take k) (a, b) ++ [(x1, a - 1)]) (x1 := b + 1) (x2 := x2) (w := w2) (v := v2) (by rw [zkz, List.length_append]; exact hrow2); simpa using h2
        case measure => simp [RowKit.intOf]; omega
      go_wp2_with (at_builtin; refine zan _ rfl _ _ rfl zcG _ _ _ rfl (by exact (HROW.out.alloc _).alloc _) ⟨wr.heap.size + 1, 0, none⟩ 1 1 [Value.int .i32 x1, Value.int .i32 (a - 1)] rfl rfl (zaD _ #[Value.int .i32 x1, Value.int .i32 (a - 1)] _ _ (by simp)) (by simp [Value.oneCell']) (by decide) (by omega) (by decide) ?_; intro v' w' hrow' hgr' hbl'; obtain ⟨q0, q1, q2, q3⟩ := zcJ HROW.out hgr' HBX.out HFR.out)
      have hsn : l.take (k + 1) = l.take k ++ [(x1, x2)] := by rw [List.take_add_one, HX.out]; rfl
      have hc1 : cut1 (x1, x2) (a, b) = [(x1, a - 1)] := by unfold cut1; rw [if_neg (by omega), if_pos e1, if_neg (by omega)]; rfl
      obtain ⟨a1, a2, a3⟩ := za4 HB.out hltw HBX.out (.cells #[Value.int .i32 x1, Value.int .i32 x2] 210); obtain ⟨a4, a5, a6⟩ := za4 a1 a2 a3 (.cells #[Value.int .i32 x1, Value.int .i32 (a - 1)] 210); obtain ⟨s1, s2, s3, s4⟩ := zc0 a4 a5 a6 HFR.out hgr' hbl'; go_roundw
      case rel =>
       refine ⟨k + 1, by omega, by go_num, ?_, s1, s2, s3⟩; rw [hsn, zdu, hc1]; exact zdp hrow'
      case measure => simp [RowKit.intOf]; omega
    by_cases e2 : b < x2
    . go_wp2_with (at_builtin; refine zan _ rfl _ _ rfl zcG _ _ _ rfl (by exact (HROW.out.alloc _).alloc _) ⟨wr.heap.size + 1, 0, none⟩ 1 1 [Value.int .i32 (b + 1), Value.int .i32 x2] rfl rfl (zaD _ #[Value.int .i32 (b + 1), Value.int .i32 x2] _ _ (by simp)) (by simp [Value.oneCell']) (by decide) (by omega) (by decide) ?_; intro v' w' hrow' hgr' hbl'; obtain ⟨q0, q1, q2, q3⟩ := zcJ HROW.out hgr' HBX.out HFR.out)
      have hsn : l.take (k + 1) = l.take k ++ [(x1, x2)] := by rw [List.take_add_one, HX.out]; rfl
      have hc1 : cut1 (x1, x2) (a, b) = [(b + 1, x2)] := by unfold cut1; rw [if_neg (by omega), if_neg e1, if_pos e2]; rfl
      obtain ⟨a1, a2, a3⟩ := za4 HB.out hltw HBX.out (.cells #[Value.int .i32 x1, Value.int .i32 x2] 210); obtain ⟨a4, a5, a6⟩ := za4 a1 a2 a3 (.cells #[Value.int .i32 (b + 1), Value.int .i32 x2] 210); obtain ⟨s1, s2, s3, s4⟩ := zc0 a4 a5 a6 HFR.out hgr' hbl'; go_roundw
      case rel =>
       refine ⟨k + 1, by omega, by go_num, ?_, s1, s2, s3⟩; rw [hsn, zdu, hc1]; exact zdp hrow'
      case measure => simp [RowKit.intOf]; omega
    go_wp2
    have hsn : l.take (k + 1) = l.take k ++ [(x1, x2)] := by rw [List.take_add_one, HX.out]; rfl
    have hc1 : cut1 (x1, x2) (a, b) = [] := by unfold cut1; rw [if_neg (by omega), if_neg e1, if_neg (by omega)]; rfl
    obtain ⟨a1, a2, a3⟩ := za4 HB.out hltw HBX.out (.cells #[Value.int .i32 x1, Value.int .i32 x2] 210); go_roundw
    case rel =>
     refine ⟨k + 1, by omega, by go_num, ?_, HFR.out, a3, a1⟩; rw [hsn, zdu, hc1, List.append_nil]; exact HROW.out.alloc _
    case measure => simp [RowKit.intOf]; omega
  go_wp2
  go_ret; have hk2 : k = l.length := by omega
  subst hk2; rw [List.take_length] at hrow; exact ⟨_, rfl, hrow, fun g hg => by have := hfr g hg; omega, hB⟩
end
section
open Go.RowKit Go.Lib
def Srt (l : List (Int × Int)) : Prop := l.Pairwise (fun x y => x.2 < y.1) /\ ∀ x ∈ l, x.1 <= x.2
theorem zhR (x r y : Int × Int) (hx : x.1 <= x.2) (hr : r.1 <= r.2) (h : y ∈ cut1 x r) : x.1 <= y.1 /\ y.2 <= x.2 /\ y.1 <= y.2 := by
 unfold cut1 at h; split at h
 . simp at h; subst h; omega
 rename_i hn
 rw [List.mem_append] at h
 rcases h with h | h
 . split at h
   . simp at h; subst h; simp; omega
   simp at h
 split at h
 . simp at h; subst h; simp; omega
 simp at h
theorem cut1_pair (x r : Int × Int) (hr : r.1 <= r.2) : (cut1 x r).Pairwise (fun x y => x.2 < y.1) := by
 unfold cut1
 (repeat' split) <;> simp
 omega
theorem ze7 (l : List (Int × Int)) (x r : Int × Int) : cutP (x :: l) r = cut1 x r ++ cutP l r := by simp [cutP, cut1]
theorem zhJ {l : List (Int × Int)} {r y : Int × Int} (h : y ∈ cutP l r) : ∃ x ∈ l, y ∈ cut1 x r := by
 induction l with
 | nil => simp [cutP] at h
 | cons x l ih =>
  rw [ze7, List.mem_append] at h
  rcases h with h | h
  . exact ⟨x, by simp, h⟩
  obtain ⟨z, h1, h2⟩ := ih h
  exact ⟨z, by simp [h1], h2⟩
theorem cutP_srt {l : List (Int × Int)} {r : Int × Int} (h : Srt l) (hr : r.1 <= r.2) : Srt (cutP l r) := by
 obtain ⟨h1, h2⟩ := h; refine ⟨?_, fun y hy => ?_⟩
 . induction l with
   | nil => simp [cutP]
   | cons x l ih =>
    rw [ze7, List.pairwise_append]; rw [List.pairwise_cons] at h1; refine ⟨cut1_pair x r hr, ih h1.2 (fun z hz => h2 z (by simp [hz])), fun y hy z hz => ?_⟩; obtain ⟨u, hu, hz⟩ := zhJ hz; have a1 := zhR x r y (h2 x (by simp)) hr hy; have a2 := zhR u r z (h2 u (by simp [hu])) hr hz; have a3 := h1.1 u hu; omega
 obtain ⟨u, hu, hy⟩ := zhJ hy
 exact (zhR u r y (h2 u hu) hr hy).2.2
theorem cut1_len1 (x r : Int × Int) (h : ¬ (x.1 < r.1 /\ r.2 < x.2)) : (cut1 x r).length <= 1 := by
 unfold cut1
 (repeat' split) <;> simp
 omega
theorem zhb (l : List (Int × Int)) (r : Int × Int) (h : ∀ x ∈ l, r.2 < x.1) : (cutP l r).length = l.length := by
 induction l with
 | nil => simp [cutP]
 | cons x l ih =>
  have h1 := h x (by simp); have e : cut1 x r = [x] := by unfold cut1; rw [if_pos (.inr h1)]
  rw [ze7, List.length_append, e, ih (fun y hy => h y (by simp [hy]))]; simp; omega
theorem cutP_len1 {l : List (Int × Int)} {r : Int × Int} (h : Srt l) (hr : r.1 <= r.2) : (cutP l r).length <= l.length + 1 := by
 obtain ⟨h1, h2⟩ := h
 induction l with
 | nil => simp [cutP]
 | cons x l ih =>
  rw [List.pairwise_cons] at h1; rw [ze7, List.length_append, List.length_cons]; by_cases hx : x.1 < r.1 /\ r.2 < x.2
  . have := zjX x r
    rw [zhb l r (fun y hy => by have := h1.1 y hy; omega)]; omega
  have := cut1_len1 x r hx
  have := ih h1.2 (fun z hz => h2 z (by simp [hz])); omega
def all0 : List (Int × Int) := [(0, 55295), (57344, 1114111)]
theorem zli (l : List (Int × Int)) (x : Int × Int) : zev (l ++ [x]) = cutP (zev l) x := by simp [zev]
theorem zjx {l : List (Int × Int)} {r : Int × Int} (h : zeF l) (hs : Srt l) (hr : r.1 <= r.2) : zeF (cutP l r) := by
 intro y hy; obtain ⟨u, hu, hy⟩ := zhJ hy; have a1 := zhR u r y (hs.2 u hu) hr hy; have a2 := h u hu; omega
theorem zhA (l : List (Int × Int)) (hl : ∀ x ∈ l, x.1 <= x.2) : Srt (zev l) /\ zeF (zev l) /\ (zev l).length <= 2 + l.length := by
 have key : ∀ (m : List (Int × Int)) (a : List (Int × Int)), (∀ x ∈ m, x.1 <= x.2) -> Srt a -> zeF a -> Srt (m.foldl cutP a) /\ zeF (m.foldl cutP a) /\ (m.foldl cutP a).length <= a.length + m.length := by
  intro m
  induction m with
  | nil => intro a _ h1 h2; exact ⟨h1, h2, by simp⟩
  | cons x m ih =>
   intro a hm h1 h2; have hx := hm x (by simp); obtain ⟨k1, k2, k3⟩ := ih (cutP a x) (fun y hy => hm y (by simp [hy])) (cutP_srt h1 hx) (zjx h2 h1 hx); have := cutP_len1 h1 hx; refine ⟨k1, k2, ?_⟩; rw [List.foldl_cons, List.length_cons]; omega
 exact key l all0 hl ⟨by simp [all0], by simp [all0]⟩ (by intro x hx; simp [all0] at hx; rcases hx with rfl | rfl <;> decide)
theorem zjr {w w' : World} {v : Value} {l : List (Int × Int)} (h : zbq w v l) (hb : Below w.heap.size w w') : zbq w' v l := za6 h hb
theorem rest_any (v : Value) (l : List (Int × Int)) (w : World) (hc : zbq w v l) (hl : l.length <= 100) (hr : zeF l) (ho : ∀ x ∈ l, x.1 <= x.2) :
 Calls Tryz.prog 166 #[v] w fun r w' => ∃ v', r = .returned v' /\ zbq w' v' (zev l) /\ (∀ g, v'.ownBlock = some g -> w.heap.size <= g) /\ Below w.heap.size w w' := by
 have HC := hid hc; have HR := hid hr; have HO := hid ho; have hlz : (l.length : Int) <= 100 := by omega
 have hform := zaG hc; clear hc hr ho; have hA0 : zbq (w.alloc (.cells #[.int .i32 0, .int .i32 55295, .int .i32 57344, .int .i32 1114111] 210)) (.slice (some ⟨w.heap.size, 0, none⟩) 2 2) (zev []) :=
  ⟨rfl, .inr ⟨w.heap.size, 2, _, rfl, Nat.zero_le _, by rw [zap, if_pos rfl], by decide, by unfold maxLen; omega, rfl, rfl⟩⟩
 have hB0 : Below w.heap.size w (w.alloc (.cells #[.int .i32 0, .int .i32 55295, .int .i32 57344, .int .i32 1114111] 210)) := (Below.refl _ w).alloc (Nat.le_refl _) _
 rcases hform with ⟨rfl, hn⟩ | ⟨g, cap, rfl, hcap, hg⟩
 . have hl0 : l = [] := List.eq_nil_of_length_eq_zero hn
   subst hl0; have HA0 := hid hA0; have HB0 := hid hB0; clear hA0 hB0; go_enter Tryz.func166, Tryz.ntmps166; go_wp2; refine wp_loop_rounds 1 ?_; rw [rounds_succ]; go_wp2; go_ret; exact ⟨_, rfl, HA0.out, fun g h => by simp [Value.ownBlock] at h; omega, HB0.out⟩
 go_enter Tryz.func166, Tryz.ntmps166
 have HA0 := hid hA0; have HB0 := hid hB0; clear hA0 hB0; go_wp2; have hA0 := HA0.out; have hB0 := HB0.out; clear HA0 HB0; generalize w.alloc (.cells #[.int .i32 0, .int .i32 55295, .int .i32 57344, .int .i32 1114111] 210) = W0 at *; go_loopw [3, 11] (fun o i wr => ∃ (k : Nat), k <= l.length /\ i = .int .i64 k /\ zbq wr o (zev (l.take k)) /\ (∀ g, o.ownBlock = some g -> w.heap.size <= g) /\ Below w.heap.size w wr) (fun _ i _ => l.length - (RowKit.intOf i).toNat)
 case atStart => exact ⟨0, by omega, rfl, hA0, fun g h => by simp [Value.ownBlock] at h; omega, hB0⟩
 case round =>
  obtain ⟨k, hk, rfl, hrow, hfr, hB⟩ := hrel; by_cases hlt : k < l.length
  . have hz : (k : Int) < (l.length : Int) := by omega
    obtain ⟨x, hx⟩ : ∃ x, l[k]? = some x := ⟨l[k], zLe hlt⟩; obtain ⟨f0, f1⟩ := zfX l k x hx; have c0 := zax (za6 HC.out hB) _ _ f0; have c1 := zax (za6 HC.out hB) _ _ f1; have hxm := List.mem_of_getElem? hx; have hxr := HR.out x hxm; have hxo := HO.out x hxm; obtain ⟨g1, g2, g3⟩ := zhA (l.take k) (fun y hy => HO.out y (List.mem_of_mem_take hy)); have hlk : (l.take k).length <= 100 := by rw [List.length_take]; omega
    obtain ⟨x1, x2⟩ := x; simp only at c0 c1 hxr hxo; have HROW := hid hrow; have HB := hid hB; have HX := hid hx; have HFR := hid hfr; have G2 := hid g2; clear hrow hB hx f0 f1 hfr hxm g1 g2; go_wp2_with (go_at_call 171; refine (cut_any _ _ _ _ _ (by exact HROW.out.alloc _) (by omega) G2.out (by omega) (by omega) (by omega) (by omega)).mono ?_; rintro e w2 ⟨v2, rfl, hc2, hf2, hb2⟩); go_roundw
    case rel =>
     have hsn : l.take (k + 1) = l.take k ++ [(x1, x2)] := by rw [List.take_add_one, HX.out]; rfl
     have hb3 := HB.out.alloc HB.out.size (.cells #[Value.int .i32 x1, Value.int .i32 x2] 210); refine ⟨k + 1, by omega, by go_num, ?_, fun g hg => ?_, hb3.trans (hb2.mono hb3.size)⟩
     . rw [hsn, zli]; exact hc2
     . exact Nat.le_trans hb3.size (hf2 g hg)
    case measure => simp [RowKit.intOf]; omega
  go_wp2
  go_ret; have hk2 : k = l.length := by omega
  subst hk2; rw [List.take_length] at hrow; exact ⟨_, rfl, hrow, hfr, hB⟩
end
end Go.Proofs.YtghpmhllpaheiaaGreatDoor
