/-
  Part of the proof: Gt1, Gt2, Gt3. No condition beyond those in the statements.
-/
import Derived.Test.YtghpmhllpaheiaaGreatDoorL20
import Derived.Test.YtghpmhllpaheiaaGreatDoorL27
set_option linter.unusedVariables false
set_option linter.unusedSimpArgs false
namespace Go.Proofs.YtghpmhllpaheiaaGreatDoor
section
open Go.RowKit Go.Lib
def frB (b : BSt) : Nat := b.state.countP (fun x => decide (x = 0))
def dnB (b : BSt) : Nat := b.state.countP (fun x => decide (x = 2))
structure BInv (n : Nat) (b : BSt) : Prop where
 ls : b.state.length = n
 lf : b.far.length = n
 le : ∀ j, b.far.getD j 0 <= 4 * (dnB b : Int) + 4
 don : ∀ j, b.state.getD j 0 = 2 -> b.far.getD j 0 <= 4 * (dnB b : Int)
 nn : ∀ j, 0 <= b.far.getD j 0
 st : ∀ j, b.state.getD j 0 = 0 \/ b.state.getD j 0 = 1 \/ b.state.getD j 0 = 2
theorem zfg {l : List Int} {i : Nat} (h : i < l.length) : l.getD i 0 = l[i] := by
 rw [zLf, zLe h]; rfl
theorem frB_set {n : Nat} {b : BSt} (h : BInv n b) {i : Nat} (hi : i < n) (x : Int) (hx : x ≠ 0) : b.state.getD i 0 = 0 -> frB { b with state := b.state.set i x } + 1 = frB b := by
 intro h0; have hl : i < b.state.length := by rw [h.ls]; exact hi
 rw [zfg hl] at h0; unfold frB; show (b.state.set i x).countP _ + 1 = _; rw [List.countP_set hl]; have hp : 0 < b.state.countP (fun x => decide (x = 0)) := List.countP_pos_iff.2 ⟨b.state[i], List.getElem_mem hl, by simp [h0]⟩; simp [h0, hx]; omega
theorem zk6 {b : BSt} {i : Nat} (x : Int) (hx : x ≠ 0) : frB { b with state := b.state.set i x } <= frB b := by
 unfold frB; show (b.state.set i x).countP _ <= _
 rcases Nat.lt_or_ge i b.state.length with h | h
 . rw [List.countP_set h]; simp [hx]
 rw [List.set_eq_of_length_le h]; exact Nat.le_refl _
theorem dnB_set {n : Nat} {b : BSt} (h : BInv n b) {i : Nat} (hi : i < n) (hx : b.state.getD i 0 = 1) : dnB { b with state := b.state.set i 2 } = dnB b + 1 := by
 have hl : i < b.state.length := by rw [h.ls]; exact hi
 rw [zfg hl] at hx; unfold dnB; show (b.state.set i 2).countP _ = _; rw [List.countP_set hl]; simp [hx]
theorem zkt {n : Nat} {b : BSt} (h : BInv n b) {i : Nat} (hi : i < n) (hx : b.state.getD i 0 = 0) : dnB { b with state := b.state.set i 1 } = dnB b := by
 have hl : i < b.state.length := by rw [h.ls]; exact hi
 rw [zfg hl] at hx; unfold dnB; show (b.state.set i 1).countP _ = _; rw [List.countP_set hl]; simp [hx]
theorem zb3 (b : BSt) (i j : Nat) (x : Int) (hi : i < b.state.length) : ({ b with state := b.state.set i x } : BSt).state.getD j 0 = if i = j then x else b.state.getD j 0 := by
 show (b.state.set i x).getD j 0 = _; by_cases e : i = j
 . subst e; rw [if_pos rfl, zbv hi]
 rw [if_neg e, zbb e]
theorem BInv.open {n : Nat} {b : BSt} (h : BInv n b) {i : Nat} (hi : i < n) (hx : b.state.getD i 0 = 0) : BInv n { b with state := b.state.set i 1 } := by
 have hl : i < b.state.length := by rw [h.ls]; exact hi
 have hd := zkt h hi hx; refine ⟨by simp [h.ls], h.lf, fun j => by rw [hd]; exact h.le j, fun j hj => ?_, h.nn, fun j => ?_⟩
 . rw [zb3 _ _ _ _ hl] at hj
   rw [hd]; split at hj
   . cases hj
   exact h.don j hj
 rw [zb3 _ _ _ _ hl]
 split
 . exact .inr (.inl rfl)
 exact h.st j
theorem BInv.close {n : Nat} {b : BSt} (h : BInv n b) {i : Nat} (hi : i < n) (hx : b.state.getD i 0 = 1) : BInv n { b with state := b.state.set i 2 } := by
 have hl : i < b.state.length := by rw [h.ls]; exact hi
 have hd := dnB_set h hi hx; refine ⟨by simp [h.ls], h.lf, fun j => ?_, fun j hj => ?_, h.nn, fun j => ?_⟩
 . rw [hd]; have := h.le j; push_cast; show b.far.getD j 0 <= _; omega
 . rw [hd]; have := h.le j; push_cast; show b.far.getD j 0 <= _; omega
 rw [zb3 _ _ _ _ hl]
 split
 . exact .inr (.inr rfl)
 exact h.st j
theorem zjz (b : BSt) (i j : Nat) (x : Int) : ({ b with far := b.far.set i (max (b.far.getD i 0) x) } : BSt).far.getD j 0 <= max (b.far.getD j 0) x /\ (i ≠ j -> ({ b with far := b.far.set i (max (b.far.getD i 0) x) } : BSt).far.getD j 0 = b.far.getD j 0) /\ b.far.getD j 0 <= ({ b with far := b.far.set i (max (b.far.getD i 0) x) } : BSt).far.getD j 0 := by
 refine ⟨?_, fun h => ?_, (zb2.far b i x).2.2 j⟩
 . show (b.far.set i _).getD j 0 <= _
   by_cases e : i = j
   . subst e
     rcases Nat.lt_or_ge i b.far.length with h | h
     . rw [zbv h]; exact Int.le_refl _
     rw [List.set_eq_of_length_le h]; omega
   rw [zbb e]; omega
 show (b.far.set i _).getD j 0 = _
 rw [zbb h]
theorem BInv.far {n : Nat} {b : BSt} (h : BInv n b) {i : Nat} (hx : b.state.getD i 0 = 1) (x : Int) (hxl : x <= 4 * (dnB b : Int) + 4) : BInv n { b with far := b.far.set i (max (b.far.getD i 0) x) } := by
 refine ⟨h.ls, by simp [h.lf], fun j => ?_, fun j hj => ?_, fun j => ?_, h.st⟩
 . have h1 := (zjz b i j x).1
   have h2 := h.le j; have h3 : dnB { b with far := b.far.set i (max (b.far.getD i 0) x) } = dnB b := rfl; rw [h3]; omega
 . have e : i ≠ j := fun e => by subst e; have : b.state.getD i 0 = 2 := hj; omega
   rw [(zjz b i j x).2.1 e]; exact h.don j hj
 exact Int.le_trans (h.nn j) (zjz b i j x).2.2
theorem BInv.rnd {n : Nat} {b : BSt} (h : BInv n b) (x : Bool) : BInv n { b with round := x } := ⟨h.ls, h.lf, h.le, h.don, h.nn, h.st⟩
def SameSt (b b2 : BSt) : Prop := ∀ j, b.state.getD j 0 ≠ 0 -> b2.state.getD j 0 = b.state.getD j 0
theorem walk_ends {T : Tab} {n m : Nat} (hn : T.goes.length = n) (hm : ∀ r ∈ T.goes, r.length <= m) (hc : ∀ r ∈ T.goes, ∀ x ∈ r, x < n) : ∀ (f : Nat),
 (∀ i b, i < n -> BInv n b -> b.state.getD i 0 = 0 -> frB b * (m + 2) <= f -> ∃ b2, zeK T f i b = some b2 /\ BInv n b2 /\ frB b2 <= frB b /\ dnB b <= dnB b2 /\ SameSt b b2 /\ b2.state.getD i 0 = 2) /\
 (∀ i k r b, i < n -> BInv n b -> b.state.getD i 0 = 1 -> r.length + 1 + frB b * (m + 2) <= f -> (∀ x ∈ r, x < (n : Int)) -> ∃ b2, zbm T f i k r b = some b2 /\ BInv n b2 /\ frB b2 <= frB b /\ dnB b <= dnB b2 /\ SameSt b b2) := by
 intro f
 induction f with
 | zero =>
  refine ⟨fun i b hi hb h0 hf => ?_, fun i k r b hi hb h1 hf => by omega⟩; have hp := frB_set hb hi 1 (by decide) h0; have : frB b * (m + 2) ≥ 1 * (m + 2) := Nat.mul_le_mul_right _ (by omega); omega
 | succ f ih =>
  refine ⟨fun i b hi hb h0 hf => ?_, fun i k r b hi hb h1 hf hr => ?_⟩
  . have hl : i < b.state.length := by rw [hb.ls]; exact hi
    have hp := frB_set hb hi 1 (by decide) h0; have hg : T.goes.getD i [] ∈ T.goes := by
     rw [zLf, zLe (by omega)]; exact List.getElem_mem _
    have hlen := hm _ hg; have hmul : frB b * (m + 2) = frB { b with state := b.state.set i 1 } * (m + 2) + (m + 2) := by rw [<- hp, Nat.add_mul]; omega
    obtain ⟨b2, e, hb2, hfr, hdn, hs⟩ := ih.2 i 0 (T.goes.getD i []) { b with state := b.state.set i 1 } hi (hb.open hi h0) (by rw [zb3 _ _ _ _ hl, if_pos rfl]) (by omega) (fun x hx => hc _ hg x hx); have hs2 : b2.state.getD i 0 = 1 := by
     rw [hs i (by rw [zb3 _ _ _ _ hl, if_pos rfl]; decide), zb3 _ _ _ _ hl, if_pos rfl]
    have hl2 : i < b2.state.length := by rw [hb2.ls]; exact hi
    refine ⟨{ b2 with state := b2.state.set i 2 }, by rw [zeK, e], hb2.close hi hs2, ?_, ?_, fun j hj => ?_, ?_⟩
    . have := zk6 (b := b2) (i := i) 2 (by decide)
      omega
    . rw [dnB_set hb2 hi hs2]
      have := zkt hb hi h0; omega
    . have hij : i ≠ j := fun e => by subst e; exact hj h0
      rw [zb3 _ _ _ _ hl2, if_neg hij, hs j (by rw [zb3 _ _ _ _ hl, if_neg hij]; exact hj), zb3 _ _ _ _ hl, if_neg hij]
    rw [zb3 _ _ _ _ hl2, if_pos rfl]
  cases r with
  | nil => exact ⟨b, by rw [zbm], hb, Nat.le_refl _, Nat.le_refl _, fun _ _ => rfl⟩
  | cons u r =>
   rw [zbm]; simp only [List.length_cons] at hf; have hru : ∀ x ∈ r, x < (n : Int) := fun x hx => hr x (List.mem_cons_of_mem _ hx); have hun : u < (n : Int) := hr u (by simp); by_cases hu : u < 0
   . rw [if_pos hu]
     exact ih.2 i (k + 1) r b hi hb h1 (by omega) hru
   rw [if_neg hu]
   obtain ⟨t, rfl⟩ := Int.eq_ofNat_of_zero_le (Int.not_lt.1 hu); have htn : t < n := by omega
   have hw := zgD (T.cuts.getD k 0); generalize zcA (T.cuts.getD k 0) = wd at hw; simp only [Int.toNat_natCast]; have hb1 := hb.far (i := i) h1 (wd - 1) (by omega); have hd1 : dnB { b with far := b.far.set i (max (b.far.getD i 0) (wd - 1)) } = dnB b := rfl; have hf1 : frB { b with far := b.far.set i (max (b.far.getD i 0) (wd - 1)) } = frB b := rfl; have hs1 : ∀ j, ({ b with far := b.far.set i (max (b.far.getD i 0) (wd - 1)) } : BSt).state.getD j 0 = b.state.getD j 0 := fun _ => rfl
   generalize hB : ({ b with far := b.far.set i (max (b.far.getD i 0) (wd - 1)) } : BSt) = b1 at hb1 hd1 hf1 hs1 ⊢; have hm1 : frB b1 * (m + 2) = frB b * (m + 2) := by rw [hf1]
   split
   . obtain ⟨b2, e, q1, q2, q3, q4⟩ := ih.2 i (k + 1) r b1 hi hb1 (by rw [hs1]; exact h1) (by omega) hru
     exact ⟨b2, e, q1, by omega, by omega, fun j hj => by rw [q4 j (by rw [hs1]; exact hj), hs1]⟩
   split
   . obtain ⟨b2, e, q1, q2, q3, q4⟩ := ih.2 i (k + 1) r { b1 with round := true } hi (hb1.rnd true) (by show b1.state.getD i 0 = 1; rw [hs1]; exact h1) (by show r.length + 1 + frB b1 * (m + 2) <= f; omega) hru
     refine ⟨b2, by rw [<- e, <- hB], q1, ?_, ?_, fun j hj => ?_⟩
     . have : frB b2 <= frB b1 := q2
       omega
     . have : dnB b1 <= dnB b2 := q3
       omega
     have := q4 j (by show b1.state.getD j 0 ≠ 0; rw [hs1]; exact hj)
     rw [this]; show b1.state.getD j 0 = _; rw [hs1]
   rename_i hopen
   have hmid : ∃ b3, (if b1.state.getD t 0 = 0 then zeK T f t b1 else some b1) = some b3 /\ BInv n b3 /\ frB b3 <= frB b1 /\ dnB b1 <= dnB b3 /\ SameSt b1 b3 /\ b3.state.getD t 0 = 2 := by
    by_cases h0 : b1.state.getD t 0 = 0
    . rw [if_pos h0]
      exact ih.1 t b1 htn hb1 h0 (by omega)
    rw [if_neg h0]
    exact ⟨b1, rfl, hb1, Nat.le_refl _, Nat.le_refl _, fun _ _ => rfl, by rcases hb1.st t with h | h | h <;> simp_all⟩
   obtain ⟨b3, e3, hb3, hf3, hd3, hs3, ht3⟩ := hmid; rw [hs1 t] at e3; rw [e3]; have h13 : b3.state.getD i 0 = 1 := by rw [hs3 i (by rw [hs1, h1]; decide), hs1, h1]
   have hft := hb3.don t ht3; have hb4 := hb3.far (i := i) h13 (wd + b3.far.getD t 0) (by omega); obtain ⟨b2, e, q1, q2, q3, q4⟩ := ih.2 i (k + 1) r { b3 with far := b3.far.set i (max (b3.far.getD i 0) (wd + b3.far.getD t 0)) } hi hb4 h13 (by
    show r.length + 1 + frB b3 * (m + 2) <= f; have : frB b3 * (m + 2) <= frB b * (m + 2) := Nat.mul_le_mul_right _ (by omega); omega) hru
   refine ⟨b2, e, q1, ?_, ?_, fun j hj => ?_⟩
   . have : frB b2 <= frB b3 := q2
     omega
   . have : dnB b3 <= dnB b2 := q3
     omega
   have h5 : b1.state.getD j 0 ≠ 0 := by rw [hs1]; exact hj
   have h4 := hs3 j h5; have := q4 j (by show b3.state.getD j 0 ≠ 0; rw [h4]; exact h5); rw [this]; show b3.state.getD j 0 = _; rw [h4, hs1]
theorem zgs {T : Tab} {n m f : Nat} (hn : T.goes.length = n) (hm : ∀ r ∈ T.goes, r.length <= m) (hc : ∀ r ∈ T.goes, ∀ x ∈ r, x < n) (hf : n * (m + 2) <= f) : ∀ (k i : Nat) (best : Int) (b : BSt), i + k = n -> BInv n b -> ∃ best2 b2, zaN T f k i best b = some (best2, b2) /\ BInv n b2
 | 0, i, best, b, hi, hb => ⟨best, b, by rw [zaN], hb⟩
 | k + 1, i, best, b, hi, hb => by
  rw [zaN]; split
  . exact zgs hn hm hc hf k (i + 1) best b (by omega) hb
  have hmid : ∃ b3, (if b.state.getD i 0 = 0 then zeK T f i b else some b) = some b3 /\ BInv n b3 := by
   by_cases h0 : b.state.getD i 0 = 0
   . rw [if_pos h0]
     have hle : frB b <= n := by rw [<- hb.ls]; exact List.countP_le_length
     obtain ⟨b3, e, h, _⟩ := (walk_ends hn hm hc f).1 i b (by omega) hb h0 (Nat.le_trans (Nat.mul_le_mul_right _ hle) hf); exact ⟨b3, e, h⟩
   rw [if_neg h0]
   exact ⟨b, rfl, hb⟩
  obtain ⟨b3, e3, hb3⟩ := hmid; rw [e3]; exact zgs hn hm hc hf k (i + 1) _ b3 (by omega) hb3
theorem BInv.zero (n : Nat) : BInv n ⟨List.replicate n 0, List.replicate n 0, false⟩ := by
 have h0 : ∀ j, (List.replicate n (0 : Int)).getD j 0 = 0 := fun j => by
  rw [zLf, List.getElem?_replicate]; split <;> rfl
 refine ⟨by simp, by simp, fun j => ?_, fun j hj => ?_, fun j => ?_, fun j => ?_⟩
 . show (List.replicate n (0 : Int)).getD j 0 <= _
   rw [h0]; omega
 . show (List.replicate n (0 : Int)).getD j 0 <= _
   rw [h0]; omega
 . show 0 <= (List.replicate n (0 : Int)).getD j 0
   rw [h0]; exact Int.le_refl _
 exact .inl (h0 j)
theorem zkU {T : Tab} {R : Nat} (hT : WfT T R) (h : T.goes.length <= 201) : ∃ f best2 b2, zaN T f T.goes.length 0 0 ⟨List.replicate T.goes.length 0, List.replicate T.goes.length 0, false⟩ = some (best2, b2) /\ ∀ j, b2.far.getD j 0 <= 1000000 := by
 obtain ⟨best2, b2, e, hb⟩ := zgs (T := T) (n := T.goes.length) (m := T.cuts.length) (f := T.goes.length * (T.cuts.length + 2)) rfl (fun r hr => Nat.le_of_eq (hT.rows r hr)) (fun r hr x hx => (hT.cells r hr x hx).2) (Nat.le_refl _) T.goes.length 0 0 _ (by omega) (BInv.zero _); refine ⟨_, best2, b2, e, fun j => ?_⟩; have h1 := hb.le j; have h2 : dnB b2 <= T.goes.length := by
  rw [<- hb.ls]; exact List.countP_le_length
 omega
end
section
open Go.RowKit Go.Lib
def zfI (sets : List Set2) (to' : Set2) (x : Int) : Prop := (to' = (0, 0) -> x = -1) /\ (to' ≠ (0, 0) -> ∃ j : Nat, sets[j]? = some to' /\ x = (j : Int))
theorem zfI.mono {sets sets2 : List Set2} {t : Set2} {x : Int} (h : zfI sets t x) (hp : sets <+: sets2) : zfI sets2 t x :=
 ⟨h.1, fun ht => by
  obtain ⟨j, h1, h2⟩ := h.2 ht; obtain ⟨r, rfl⟩ := hp; exact ⟨j, by rw [List.getElem?_append_left (List.getElem?_eq_some_iff.1 h1).1]; exact h1, h2⟩⟩
theorem zhI {F : Set2} : ∀ (ms : List Set2) (sets : List Set2) (row : List Int) (sets2 : List Set2) (row2 : List Int), zdP F ms sets row = some (sets2, row2) -> sets.Nodup -> sets.length <= 201 ->
 sets <+: sets2 /\ sets2.Nodup /\ sets2.length <= 201 /\ (∀ s ∈ sets2, s ∈ sets \/ ∃ m ∈ ms, s = F.and m /\ s ≠ (0, 0)) /\ ∃ r, row2 = row ++ r /\ r.length = ms.length /\ ∀ (k : Nat) (m : Set2), ms[k]? = some m -> ∃ x, r[k]? = some x /\ zfI sets2 (F.and m) x
 | [], sets, row, sets2, row2, h, hn, hl => by
  rw [zdP] at h; cases h; exact ⟨List.prefix_refl _, hn, hl, fun s hs => .inl hs, [], by simp, rfl, fun k m hm => by simp at hm⟩
 | m :: ms, sets, row, sets2, row2, h, hn, hl => by
  rw [zdP] at h; have wrap : ∀ (sets1 : List Set2) (x : Int), sets <+: sets1 -> sets1.Nodup -> sets1.length <= 201 -> (∀ s ∈ sets1, s ∈ sets \/ (s = F.and m /\ s ≠ (0, 0))) -> zfI sets1 (F.and m) x -> zdP F ms sets1 (row ++ [x]) = some (sets2, row2) ->
   sets <+: sets2 /\ sets2.Nodup /\ sets2.length <= 201 /\ (∀ s ∈ sets2, s ∈ sets \/ ∃ m' ∈ m :: ms, s = F.and m' /\ s ≠ (0, 0)) /\ ∃ r, row2 = row ++ r /\ r.length = (m :: ms).length /\ ∀ (k : Nat) (m' : Set2), (m :: ms)[k]? = some m' -> ∃ x, r[k]? = some x /\ zfI sets2 (F.and m') x := by
   intro sets1 x hp hn1 hl1 hs1 hx hg; obtain ⟨a1, a2, a3, a4, r, a5, a6, a7⟩ := zhI ms sets1 (row ++ [x]) sets2 row2 hg hn1 hl1; refine ⟨hp.trans a1, a2, a3, fun s hs => ?_, x :: r, by rw [a5]; simp, by simp [a6], fun k m' hm => ?_⟩
   . rcases a4 s hs with h | ⟨m', hm', e⟩
     . rcases hs1 s h with h | h
       . exact .inl h
       exact .inr ⟨m, by simp, h⟩
     exact .inr ⟨m', by simp [hm'], e⟩
   cases k with
   | zero =>
    simp only [zLb, Option.some.injEq] at hm; subst hm; exact ⟨x, rfl, hx.mono a1⟩
   | succ k =>
    simp only [zLc] at hm ⊢; exact a7 k m' hm
  (try dsimp only at h); split at h
  . rename_i hz
    exact wrap sets (-1) (List.prefix_refl _) hn hl (fun s hs => .inl hs) ⟨fun _ => rfl, fun h' => absurd hz h'⟩ h
  rename_i hz
  split at h
  . rename_i j hj
    obtain ⟨hjl, hje, _⟩ := List.findIdx?_eq_some_iff_getElem.1 hj; exact wrap sets j (List.prefix_refl _) hn hl (fun s hs => .inl hs) ⟨fun h' => absurd h' hz, fun _ => ⟨j, by rw [zLe hjl]; simpa using hje, rfl⟩⟩ h
  rename_i hj
  split at h
  . cases h
  rename_i h200
  have hnew := List.findIdx?_eq_none_iff.1 hj; refine wrap (sets ++ [F.and m]) sets.length (List.prefix_append _ _) ?_ (by simp; omega) (fun s hs => ?_) ⟨fun h' => absurd h' hz, fun _ => ⟨sets.length, by simp, rfl⟩⟩ h
  . rw [List.nodup_append]
    refine ⟨hn, by simp, fun a ha b hb e => ?_⟩; rw [List.mem_singleton] at hb; have := hnew a ha; simp at this; exact this (e.trans hb)
  rcases List.mem_append.1 hs with h | h
  . exact .inl h
  rw [List.mem_singleton] at h
  exact .inr ⟨h, by rw [h]; exact hz⟩
def RowOk (L : Lay) (ms sets : List Set2) (s : Set2) (r : Int) (row : List Int) : Prop :=
 r = (zaw L s L.cls.length).2 /\ row.length = ms.length /\ ∀ (k : Nat) (m : Set2), ms[k]? = some m -> ∃ x, row[k]? = some x /\ zfI sets ((zaw L s L.cls.length).1.and m) x
theorem RowOk.mono {L : Lay} {ms sets sets2 : List Set2} {s : Set2} {r : Int} {row : List Int} (h : RowOk L ms sets s r row) (hp : sets <+: sets2) : RowOk L ms sets2 s r row :=
 ⟨h.1, h.2.1, fun k m hm => by
  obtain ⟨x, h1, h2⟩ := h.2.2 k m hm; exact ⟨x, h1, h2.mono hp⟩⟩
structure zen (L : Lay) (ms sets : List Set2) (rule : List Int) (goes : List (List Int)) : Prop where
 lg : goes.length = rule.length
 le : rule.length <= sets.length
 nd : sets.Nodup
 hd : sets[0]? = some (1, 0)
 max : sets.length <= 201
 row : ∀ (i : Nat) (s : Set2), sets[i]? = some s -> i < rule.length -> ∃ r row, rule[i]? = some r /\ goes[i]? = some row /\ RowOk L ms sets s r row
theorem zen.step {L : Lay} {ms sets : List Set2} {rule : List Int} {goes : List (List Int)} (h : zen L ms sets rule goes) (hlt : rule.length < sets.length) {sets2 : List Set2} {row : List Int}
 (hg : zdP (zaw L (sets.getD rule.length (0, 0)) L.cls.length).1 ms sets [] = some (sets2, row)) :
 zen L ms sets2 (rule ++ [(zaw L (sets.getD rule.length (0, 0)) L.cls.length).2]) (goes ++ [row]) /\ sets <+: sets2 /\ ∀ s ∈ sets2, s ∈ sets \/ ∃ m ∈ ms, s = (zaw L (sets.getD rule.length (0, 0)) L.cls.length).1.and m /\ s ≠ (0, 0) := by
 obtain ⟨hp, a2, a3, a4, r, a5, a6, a7⟩ := zhI ms sets [] sets2 row hg h.nd h.max; rw [List.nil_append] at a5; subst a5; have hpl := hp.length_le; refine ⟨⟨by simp [h.lg], by simp; omega, a2, ?_, a3, fun i s hs hi => ?_⟩, hp, a4⟩
 . obtain ⟨t, rfl⟩ := hp
   rw [List.getElem?_append_left (List.getElem?_eq_some_iff.1 h.hd).1]; exact h.hd
 have hs0 : i < sets.length -> sets[i]? = some s := fun hl => by
  obtain ⟨t, rfl⟩ := hp; rwa [List.getElem?_append_left hl] at hs
 rcases Nat.lt_or_ge i rule.length with hl | hl
 . obtain ⟨r', row', b1, b2, b3⟩ := h.row i s (hs0 (by omega)) hl
   exact ⟨r', row', by rw [List.getElem?_append_left hl]; exact b1, by rw [List.getElem?_append_left (by rw [h.lg]; exact hl)]; exact b2, b3.mono hp⟩
 have e : i = rule.length := by simp at hi; omega
 subst e; have hs1 := hs0 hlt; have hsd : sets.getD rule.length (0, 0) = s := by rw [zLf, hs1]; rfl
 rw [hsd] at a7 ⊢; exact ⟨_, row, by simp, by rw [<- h.lg]; simp, rfl, a6, a7⟩
theorem zfb {L : Lay} {ms : List Set2} : ∀ (f : Nat) (sets : List Set2) (rule : List Int) (goes : List (List Int)) (rule2 : List Int) (goes2 : List (List Int)), za1 L ms f sets rule goes = some (rule2, goes2) -> zen L ms sets rule goes ->
 ∃ sets2, sets <+: sets2 /\ zen L ms sets2 rule2 goes2 /\ rule2.length = sets2.length
 | 0, sets, rule, goes, rule2, goes2, h, hm => by
  rw [za1] at h; split at h
  . cases h
  . rename_i hge
    cases h; have := hm.le; exact ⟨sets, List.prefix_refl _, hm, by omega⟩
 | f + 1, sets, rule, goes, rule2, goes2, h, hm => by
  rw [za1] at h; split at h
  . rename_i hlt
    dsimp only at h; split at h
    . cases h
    rename_i sets1 row hg
    obtain ⟨h1, h2, _⟩ := hm.step hlt hg; obtain ⟨sets2, h3, h4, h5⟩ := zfb f _ _ _ _ _ h h1; exact ⟨sets2, h2.trans h3, h4, h5⟩
  cases h
  have := hm.le; exact ⟨sets, List.prefix_refl _, hm, by omega⟩
theorem zen.start (L : Lay) (ms : List Set2) : zen L ms [(1, 0)] [] [] := ⟨rfl, by simp, by simp, rfl, by simp, fun i s hs hi => by simp at hi⟩
theorem make_spec {L : Lay} {ms : List Set2} {f : Nat} {rule : List Int} {goes : List (List Int)} (h : za1 L ms f [(1, 0)] [] [] = some (rule, goes)) : ∃ sets, zen L ms sets rule goes /\ rule.length = sets.length := by
 obtain ⟨sets, _, h1, h2⟩ := zfb f _ _ _ _ _ h (zen.start L ms); exact ⟨sets, h1, h2⟩
theorem zej {F : Set2} {U : List Set2} (hU : U.length <= 201) : ∀ (ms : List Set2) (sets : List Set2) (row : List Int), sets.Nodup -> (∀ s ∈ sets, s ∈ U) -> (∀ m ∈ ms, F.and m ≠ (0, 0) -> F.and m ∈ U) -> ∃ sets2 row2, zdP F ms sets row = some (sets2, row2)
 | [], sets, row, _, _, _ => ⟨sets, row, by rw [zdP]⟩
 | m :: ms, sets, row, hn, hs, hm => by
  have hm' : ∀ m' ∈ ms, F.and m' ≠ (0, 0) -> F.and m' ∈ U := fun m' h => hm m' (by simp [h]); rw [zdP]; (try dsimp only); split
  . exact zej hU ms sets _ hn hs hm'
  rename_i hz
  split
  . exact zej hU ms sets _ hn hs hm'
  rename_i hj
  have hnew := List.findIdx?_eq_none_iff.1 hj; have hn2 : (sets ++ [F.and m]).Nodup := by
   rw [List.nodup_append]; refine ⟨hn, by simp, fun a ha b hb e => ?_⟩; rw [List.mem_singleton] at hb; have := hnew a ha; simp at this; exact this (e.trans hb)
  have hs2 : ∀ s ∈ sets ++ [F.and m], s ∈ U := fun s h => by
   rcases List.mem_append.1 h with h | h
   . exact hs s h
   rw [List.mem_singleton] at h; rw [h]; exact hm m (by simp) hz
  have hlen := hn2.length_le_of_subset hs2; rw [List.length_append, List.length_singleton] at hlen; rw [if_neg (by omega)]; exact zej hU ms _ _ hn2 hs2 hm'
theorem zfd {L : Lay} {ms U : List Set2} (hU : U.length <= 201) (hc : ∀ s ∈ U, ∀ m ∈ ms, (zaw L s L.cls.length).1.and m ≠ (0, 0) -> (zaw L s L.cls.length).1.and m ∈ U) : ∀ (f : Nat) (sets : List Set2) (rule : List Int) (goes : List (List Int)), zen L ms sets rule goes -> (∀ s ∈ sets, s ∈ U) -> f + rule.length = 202 ->
 ∃ rule2 goes2, za1 L ms f sets rule goes = some (rule2, goes2)
 | 0, sets, rule, goes, hm, hs, hf => by
  have := hm.le; have := hm.max; omega
 | f + 1, sets, rule, goes, hm, hs, hf => by
  rw [za1]; split
  . rename_i hlt
    have hsd : sets.getD rule.length (0, 0) ∈ U := hs _ (by
     rw [zLf, zLe hlt]; exact List.getElem_mem _)
    obtain ⟨sets2, row, hg⟩ := zej (F := (zaw L (sets.getD rule.length (0, 0)) L.cls.length).1) hU ms sets [] hm.nd hs (fun m h hz => hc _ hsd m h hz); dsimp only; rw [hg]; obtain ⟨h1, h2, h3⟩ := hm.step hlt hg; refine zfd hU hc f _ _ _ h1 (fun s h => ?_) (by simp; omega)
    rcases h3 s h with h | ⟨m, hm2, e, hz⟩
    . exact hs s h
    rw [e]; exact hc _ hsd m hm2 (by rw [<- e]; exact hz)
  exact ⟨rule, goes, rfl⟩
theorem make_some {L : Lay} {ms U : List Set2} (hU : U.length <= 201) (h0 : (1, 0) ∈ U) (hc : ∀ s ∈ U, ∀ m ∈ ms, (zaw L s L.cls.length).1.and m ≠ (0, 0) -> (zaw L s L.cls.length).1.and m ∈ U) : ∃ rule goes, za1 L ms 202 [(1, 0)] [] [] = some (rule, goes) :=
 zfd hU hc 202 _ _ _ (zen.start L ms) (fun s hs => by rw [List.mem_singleton] at hs; rw [hs]; exact h0) rfl
end
section
open Go.RowKit Go.Lib
theorem zdi (p : Nat) : Set2.has (0, 0) p = false := by unfold Set2.has; split <;> simp
theorem zd0 (s : Set2) (n p : Nat) (hp : p < 128) : (s.add n).has p = (s.has p || decide (p = n)) := by
 unfold Set2.add Set2.has; have key : ∀ (a i j : Nat), (a ||| 2 ^ i).testBit j = (a.testBit j || decide (j = i)) := fun a i j => by
  rw [Nat.testBit_or, Nat.testBit_two_pow]; congr 1; simp [eq_comm]
 by_cases hn : n < 64 <;> by_cases hq : p < 64 <;> simp only [hn, hq, if_true, if_false]
 . rw [key]
 . have : decide (p = n) = false := decide_eq_false (by omega)
   rw [this, Bool.or_false]
 . have : decide (p = n) = false := decide_eq_false (by omega)
   rw [this, Bool.or_false]
 rw [key]
 congr 1; have : (p - 64 = n - 64) ↔ (p = n) := by omega
 exact decide_eq_decide.2 this
theorem has_or (s t : Set2) (p : Nat) : (s.or t).has p = (s.has p || t.has p) := by
 unfold Set2.or Set2.has; split <;> rw [Nat.testBit_or]
theorem has_and (s t : Set2) (p : Nat) : (s.and t).has p = (s.has p && t.has p) := by
 unfold Set2.and Set2.has; split <;> rw [Nat.testBit_and]
theorem zh1 {s t : Set2} (hs : s.Ok) (ht : t.Ok) (h : ∀ p, p < 128 -> s.has p = t.has p) : s = t := by
 have e : ∀ (a b : Nat), a < W64 -> b < W64 -> (∀ i, i < 64 -> a.testBit i = b.testBit i) -> a = b := fun a b ha hb hab => by
  refine Nat.eq_of_testBit_eq fun i => ?_
  rcases Nat.lt_or_ge i 64 with hi | hi
  . exact hab i hi
  have hp : W64 <= 2 ^ i := Nat.le_trans (show W64 <= 2 ^ 64 by decide) (Nat.pow_le_pow_right (by decide) hi)
  rw [Nat.testBit_lt_two_pow (zLd ha hp), Nat.testBit_lt_two_pow (zLd hb hp)]
 refine Prod.ext (e _ _ hs.1 ht.1 fun i hi => ?_) (e _ _ hs.2 ht.2 fun i hi => ?_)
 . have := h i (by omega)
   unfold Set2.has at this; rwa [if_pos hi, if_pos hi] at this
 have := h (i + 64) (by omega)
 unfold Set2.has at this; rwa [if_neg (by omega), if_neg (by omega), Nat.add_sub_cancel] at this
theorem ok_and {s t : Set2} (hs : s.Ok) : (s.and t).Ok := ⟨Nat.lt_of_le_of_lt Nat.and_le_left hs.1, Nat.lt_of_le_of_lt Nat.and_le_left hs.2⟩
theorem ok_or {s t : Set2} (hs : s.Ok) (ht : t.Ok) : (s.or t).Ok := ⟨Nat.or_lt_two_pow (n := 64) hs.1 ht.1, Nat.or_lt_two_pow (n := 64) hs.2 ht.2⟩
theorem zdX : Set2.Ok (0, 0) := ⟨by decide, by decide⟩
theorem has_start (p : Nat) (hp : p < 128) : Set2.has (1, 0) p = decide (p = 0) := by
 have : ((1, 0) : Set2) = Set2.add (0, 0) 0 := rfl; rw [this, zd0 _ _ _ hp, zdi, Bool.false_or]
theorem zga {s : Set2} (hs : s.Ok) : s ≠ (0, 0) ↔ ∃ p, p < 128 /\ s.has p = true := by
 constructor
 . intro h
   rcases Classical.em (∃ p, p < 128 /\ s.has p = true) with h1 | h1
   . exact h1
   refine absurd (zh1 hs zdX fun p hp => ?_) h
   rw [zdi]; cases hh : s.has p with
   | false => rfl
   | true => exact absurd ⟨p, hp, hh⟩ h1
 rintro ⟨p, _, h⟩ e
 rw [e, zdi] at h; cases h
theorem zd3 (c : Int) : ∀ (l : List (List (Int × Int))) (n : Nat) (s : Set2) (p : Nat), p < 128 -> (zaJ c l n s).has p = (s.has p || (decide (n <= p) && (l[p - n]?.map (za2 · c)).getD false))
 | [], n, s, p, hp => by simp [zaJ]
 | k :: r, n, s, p, hp => by
  rw [zaJ, zd3 c r (n + 1) _ p hp]; have h1 : (if za2 k c = true then s.add n else s).has p = (s.has p || (za2 k c && decide (p = n))) := by
   cases za2 k c with
   | false => simp
   | true => simp [zd0 _ _ _ hp]
  rw [h1]
  rcases Nat.lt_trichotomy p n with h | h | h
  . have e1 : decide (p = n) = false := decide_eq_false (by omega)
    have e2 : decide (n + 1 <= p) = false := decide_eq_false (by omega); have e3 : decide (n <= p) = false := decide_eq_false (by omega); simp [e1, e2, e3]
  . subst h
    have e2 : decide (p + 1 <= p) = false := decide_eq_false (by omega); simp [e2]
  have e1 : decide (p = n) = false := decide_eq_false (by omega)
  have e2 : decide (n + 1 <= p) = true := decide_eq_true (by omega); have e3 : decide (n <= p) = true := decide_eq_true (by omega); have e4 : p - n = (p - (n + 1)) + 1 := by omega
  simp [e1, e2, e3, e4]
theorem zeE (cls : List (List (Int × Int))) (c : Int) (p : Nat) (hp : p < 128) : (zav cls c).has p = (cls[p]?.map (za2 · c)).getD false := by
 unfold zav; rw [zd3 c cls 0 (0, 0) p hp, zdi]; simp
theorem zd2 (c : Int) : ∀ (l : List (List (Int × Int))) (n : Nat) (s : Set2), s.Ok -> n + l.length <= 128 -> (zaJ c l n s).Ok
 | [], n, s, hs, _ => hs
 | k :: r, n, s, hs, hn => by
  rw [zaJ]; refine zd2 c r (n + 1) _ ?_ (by simp at hn; omega); split
  . exact zhB hs (by simp at hn; omega)
  exact hs
theorem zgU (cls : List (List (Int × Int))) (c : Int) (h : cls.length <= 128) : (zav cls c).Ok := zd2 c cls 0 (0, 0) zdX (by omega)
theorem zeZ (L : Lay) (s : Set2) (p : Nat) : ∀ n, (zaw L s n).1.has p = true ↔ ∃ k, k < n /\ s.has k = true /\ (L.follow.getD k (0, 0)).has p = true
 | 0 => by
  rw [zaw]; constructor
  . intro h; rw [zdi] at h; cases h
  . rintro ⟨k, hk, _⟩; omega
 | n + 1 => by
  rw [zaw]; have ih := zeZ L s p n; (try dsimp only); split
  . rename_i hn
    rw [has_or, Bool.or_eq_true, ih]; constructor
    . rintro (⟨k, h1, h2, h3⟩ | h)
      . exact ⟨k, by omega, h2, h3⟩
      exact ⟨n, by omega, hn, h⟩
    rintro ⟨k, h1, h2, h3⟩
    by_cases e : k = n
    . subst e; exact .inr h3
    exact .inl ⟨k, by omega, h2, h3⟩
  rename_i hn
  rw [ih]; constructor
  . rintro ⟨k, h1, h2, h3⟩; exact ⟨k, by omega, h2, h3⟩
  rintro ⟨k, h1, h2, h3⟩
  by_cases e : k = n
  . subst e; exact absurd h2 hn
  exact ⟨k, by omega, h2, h3⟩
theorem zfN {L : Lay} (hL : ∀ x ∈ L.follow, x.Ok) (s : Set2) : ∀ n, (zaw L s n).1.Ok
 | 0 => zdX
 | n + 1 => by
  have ih := zfN hL s n; rw [zaw]; (try dsimp only); split
  . refine ok_or ih ?_
    rw [zLf]; cases h : L.follow[n]? with
    | none => exact zdX
    | some x => exact hL x (List.mem_of_getElem? h)
  exact ih
theorem zcw (L : Lay) (s : Set2) : ∀ n, ((zaw L s n).2 = -1 /\ ∀ k, k < n -> s.has k = true -> L.rule.getD k (-1) < 0) \/
 (0 <= (zaw L s n).2 /\ (∃ k, k < n /\ s.has k = true /\ L.rule.getD k (-1) = (zaw L s n).2) /\ ∀ k, k < n -> s.has k = true -> 0 <= L.rule.getD k (-1) -> (zaw L s n).2 <= L.rule.getD k (-1))
 | 0 => .inl ⟨rfl, fun k hk => by omega⟩
 | n + 1 => by
  have ih := zcw L s n; rw [zaw]; generalize zaw L s n = q at ih; obtain ⟨q1, q2⟩ := q; (try dsimp only at ih ⊢); have cut : ∀ k, k < n + 1 -> k = n \/ k < n := fun k h => by omega
  by_cases hn : s.has n = true
  . rw [if_pos hn]
    (try dsimp only); generalize hr : L.rule.getD n (-1) = r; by_cases hc : 0 <= r /\ (q2 < 0 \/ r < q2)
    . rw [if_pos hc]
      refine .inr ⟨hc.1, ⟨n, by omega, hn, hr⟩, fun k hk h0 h1 => ?_⟩
      rcases cut k hk with rfl | hk
      . omega
      rcases ih with ⟨_, h⟩ | ⟨_, _, h⟩
      . have := h k hk h0; omega
      have := h k hk h0 h1; omega
    rw [if_neg hc]
    rcases ih with ⟨e, h⟩ | ⟨e, ⟨j, j1, j2, j3⟩, h⟩
    . refine .inl ⟨e, fun k hk h0 => ?_⟩
      rcases cut k hk with rfl | hk
      . omega
      exact h k hk h0
    refine .inr ⟨e, ⟨j, by omega, j2, j3⟩, fun k hk h0 h1 => ?_⟩
    rcases cut k hk with rfl | hk
    . omega
    exact h k hk h0 h1
  rw [if_neg hn]
  rcases ih with ⟨e, h⟩ | ⟨e, ⟨j, j1, j2, j3⟩, h⟩
  . refine .inl ⟨e, fun k hk h0 => ?_⟩
    rcases cut k hk with rfl | hk
    . exact absurd h0 hn
    exact h k hk h0
  refine .inr ⟨e, ⟨j, by omega, j2, j3⟩, fun k hk h0 h1 => ?_⟩
  rcases cut k hk with rfl | hk
  . exact absurd h0 hn
  exact h k hk h0 h1
theorem ze3 (cls : List (List (Int × Int))) (x : Int) : x ∈ zat cls ↔ x ∈ zba cls := (zb8 _).2 x
theorem zc7 {cls : List (List (Int × Int))} {x : Int} : x ∈ zba cls ↔ x ∈ za8 \/ ∃ k ∈ cls, ∃ r ∈ k, x = r.1 \/ (r.2 < 1114111 /\ x = r.2 + 1) := by
 unfold zba; rw [List.mem_append, List.mem_flatMap]; constructor
 . rintro (h | ⟨k, hk, h⟩)
   . exact .inl h
   unfold zay at h
   obtain ⟨r, hr, h⟩ := List.mem_flatMap.1 h; refine .inr ⟨k, hk, r, hr, ?_⟩; split at h
   . rename_i hl
     simp at h
     rcases h with h | h
     . exact .inl h
     exact .inr ⟨hl, h⟩
   simp at h
   exact .inl h
 rintro (h | ⟨k, hk, r, hr, h⟩)
 . exact .inl h
 refine .inr ⟨k, hk, ?_⟩
 unfold zay; refine List.mem_flatMap.2 ⟨r, hr, ?_⟩
 rcases h with h | ⟨h1, h2⟩
 . split <;> simp [h]
 rw [if_pos h1]; simp [h2]
theorem zfn {cls : List (List (Int × Int))} (hr : ∀ c ∈ cls, zbP c) {x : Int} (hx : x ∈ zat cls) : 0 <= x /\ x <= 1114111 := by
 rw [ze3, zc7] at hx
 rcases hx with hx | ⟨k, hk, r, hr', h⟩
 . simp [za8] at hx
   rcases hx with rfl | rfl | rfl | rfl | rfl | rfl <;> decide
 have := hr k hk r hr'
 omega
theorem zgt {cls : List (List (Int × Int))} (hr : ∀ c ∈ cls, zbP c) : (zat cls).head? = some 0 := by
 have h0 : (0 : Int) ∈ zat cls := by rw [ze3, zc7]; exact .inl (by decide)
 have hs := (zb8 (zba cls)).1; have hrg := fun x hx => zfn hr (x := x) hx; unfold zat at h0 hrg ⊢; generalize zgI (zba cls) = l at h0 hs hrg ⊢; cases l with
 | nil => cases h0
 | cons y l =>
  rcases List.mem_cons.1 h0 with rfl | h
  . rfl
  have h1 := (List.pairwise_cons.1 hs).1 0 h
  have := hrg y (by simp); omega
theorem wf_made {L : Lay} {R : Nat} {sets : List Set2} {rule : List Int} {goes : List (List Int)} (hr : ∀ c ∈ L.cls, zbP c) (hR : ∀ x ∈ L.rule, x < (R : Int)) (h : zen L ((zat L.cls).map (zav L.cls)) sets rule goes) (hl : rule.length = sets.length) (bnd : Int) :
 WfT ⟨zat L.cls, rule, goes, bnd⟩ R := by
 have hz := h.max; have hlen : 0 < sets.length := (List.getElem?_eq_some_iff.1 h.hd).1; have hlg := h.lg; have get : ∀ (i : Nat), i < rule.length -> ∃ s r row, sets[i]? = some s /\ rule[i]? = some r /\ goes[i]? = some row /\ RowOk L ((zat L.cls).map (zav L.cls)) sets s r row := fun i hi => by
  obtain ⟨s, hs⟩ : ∃ s, sets[i]? = some s := ⟨_, zLe (by omega)⟩; obtain ⟨r, row, h1, h2, h3⟩ := h.row i s hs hi; exact ⟨s, r, row, hs, h1, h2, h3⟩
 refine ⟨(zb8 _).1, zgt hr, fun c hc => (zfn hr hc).2, by show 0 < goes.length; omega, hlg.symm, fun row hrow => ?_, fun row hrow x hx => ?_, fun x hx => ?_⟩
 . obtain ⟨i, hi⟩ := List.getElem?_of_mem hrow
   obtain ⟨s, r, row', _, _, h2, h3⟩ := get i (by have := (List.getElem?_eq_some_iff.1 hi).1; simp at this; omega); have e : row = row' := by
    have hi' : goes[i]? = some row := hi; rw [hi'] at h2; cases h2; rfl
   rw [e, h3.2.1, List.length_map]
 . obtain ⟨i, hi⟩ := List.getElem?_of_mem hrow
   obtain ⟨s, r, row', _, _, h2, h3⟩ := get i (by have := (List.getElem?_eq_some_iff.1 hi).1; simp at this; omega); have e : row = row' := by
    have hi' : goes[i]? = some row := hi; rw [hi'] at h2; cases h2; rfl
   subst e; obtain ⟨k, hk⟩ := List.getElem?_of_mem hx; have hkl := (List.getElem?_eq_some_iff.1 hk).1; obtain ⟨m, hm⟩ : ∃ m, ((zat L.cls).map (zav L.cls))[k]? = some m := ⟨_, zLe (by rw [<- h3.2.1]; exact hkl)⟩; obtain ⟨y, hy, hc⟩ := h3.2.2 k m hm; rw [hk] at hy; cases hy; show -1 <= x /\ x < (goes.length : Int); by_cases hz0 : (zaw L s L.cls.length).1.and m = (0, 0)
   . rw [hc.1 hz0]; omega
   obtain ⟨j, hj, rfl⟩ := hc.2 hz0
   have := (List.getElem?_eq_some_iff.1 hj).1; omega
 obtain ⟨i, hi⟩ := List.getElem?_of_mem hx
 have hi' : rule[i]? = some x := hi; obtain ⟨s, r, row', _, h1, h2, h3⟩ := get i (List.getElem?_eq_some_iff.1 hi').1; rw [hi'] at h1; cases h1; rw [h3.1]
 rcases zcw L s L.cls.length with ⟨e, _⟩ | ⟨e, ⟨k, _, _, hk⟩, _⟩
 . rw [e]; omega
 refine ⟨by omega, ?_⟩
 rw [<- hk]; rw [<- hk] at e; rw [zLf] at e ⊢; cases hkr : L.rule[k]? with
 | none => rw [hkr] at e; simp at e
 | some v => exact hR v (List.mem_of_getElem? hkr)
theorem stretch {cls : List (List (Int × Int))} (hr : ∀ c ∈ cls, zbP c) {c : Int} (h0 : 0 <= c) (h1 : c <= 1114111) : ∀ k ∈ cls, za2 k ((zat cls).getD (zbL (zat cls) c) 0) = za2 k c := by
 intro k hk; have hs := (zb8 (zba cls)).1; obtain ⟨hl, hle, hnx⟩ := zdh (cuts := zat cls) hs (zgt hr) h0; generalize hd : (zat cls).getD (zbL (zat cls) c) 0 = d at hle; have hdm : d ∈ zat cls := by
  rw [<- hd, zLf, zLe hl]; exact List.getElem_mem _
 have hd0 := zfn hr hdm; have key : ∀ x ∈ zat cls, x <= c -> x <= d := fun x hx hxc => by
  obtain ⟨i, hi⟩ := List.getElem?_of_mem hx; obtain ⟨hil, hie⟩ := List.getElem?_eq_some_iff.1 hi; have hp := List.pairwise_iff_getElem.1 hs; have hdg : d = (zat cls)[zbL (zat cls) c] := by rw [<- hd, zLf, zLe hl]; rfl
  rcases Nat.lt_trichotomy i (zbL (zat cls) c) with h | h | h
  . have := hp i _ hil hl h
    rw [<- hie, hdg]; exact Int.le_of_lt this
  . subst h
    rw [<- hie, hdg]; exact Int.le_refl _
  exfalso
  have hl1 : zbL (zat cls) c + 1 < (zat cls).length := by omega
  have h2 := hnx hl1; rw [zLf, zLe hl1] at h2; have h3 : (zat cls)[zbL (zat cls) c + 1]'hl1 <= x := by
   rcases Nat.lt_or_ge (zbL (zat cls) c + 1) i with h4 | h4
   . rw [<- hie]; exact Int.le_of_lt (hp _ i hl1 hil h4)
   have : i = zbL (zat cls) c + 1 := by omega
   subst this; rw [<- hie]; exact Int.le_refl _
  simp only [Option.getD_some] at h2; omega
 have wd : ∀ x ∈ za8, (x <= c ↔ x <= d) := fun x hx => ⟨fun h => key x (by rw [ze3, zc7]; exact .inl hx) h, fun h => by omega⟩; have hv : zdf d = zdf c := by
  have a1 := wd 55296 (by decide); have a2 := wd 57344 (by decide); unfold zdf; rw [Bool.eq_iff_iff]; simp only [Bool.or_eq_true, decide_eq_true_eq]; omega
 have hin : ∀ r ∈ k, (decide (r.1 <= d) && decide (d <= r.2)) = (decide (r.1 <= c) && decide (c <= r.2)) := fun r hrk => by
  have hrr := hr k hk r hrk; have b1 : r.1 <= c ↔ r.1 <= d := ⟨fun h => key r.1 (by rw [ze3, zc7]; exact .inr ⟨k, hk, r, hrk, .inl rfl⟩) h, fun h => by omega⟩; have b2 : d <= r.2 ↔ c <= r.2 := by
   constructor
   . intro h
     rcases Int.lt_or_le r.2 c with h2 | h2
     . have := key (r.2 + 1) (by rw [ze3, zc7]; exact .inr ⟨k, hk, r, hrk, .inr ⟨by omega, rfl⟩⟩) (by omega)
       omega
     exact h2
   intro h; omega
  rw [Bool.eq_iff_iff]; simp only [Bool.and_eq_true, decide_eq_true_eq]; omega
 unfold za2; rw [hv]; congr 1; rw [Bool.eq_iff_iff, List.any_eq_true, List.any_eq_true]; constructor
 . rintro ⟨r, h, e⟩; exact ⟨r, h, by rw [<- hin r h]; exact e⟩
 rintro ⟨r, h, e⟩; exact ⟨r, h, by rw [hin r h]; exact e⟩
theorem zji {L : Lay} {sets : List Set2} {rule : List Int} {goes : List (List Int)} (hr : ∀ c ∈ L.cls, zbP c) (hlc : L.cls.length <= 128) (h : zen L ((zat L.cls).map (zav L.cls)) sets rule goes) (hl : rule.length = sets.length) (hok : ∀ x ∈ L.follow, x.Ok) (bnd : Int)
 {i : Nat} {s : Set2} (hs : sets[i]? = some s) {c : Int} (h0 : 0 <= c) (h1 : c <= 1114111) : zfI sets ((zaw L s L.cls.length).1.and (zav L.cls c)) (zbQ ⟨zat L.cls, rule, goes, bnd⟩ i c) := by
 obtain ⟨r, row, _, hg, hrow⟩ := h.row i s hs (by rw [hl]; exact (List.getElem?_eq_some_iff.1 hs).1); obtain ⟨hcl, _, _⟩ := zdh (cuts := zat L.cls) (zb8 _).1 (zgt hr) h0; obtain ⟨d, hd⟩ : ∃ d, (zat L.cls)[zbL (zat L.cls) c]? = some d := ⟨_, zLe hcl⟩; obtain ⟨x, hx, hc⟩ := hrow.2.2 (zbL (zat L.cls) c) (zav L.cls d) (by rw [List.getElem?_map, hd]; rfl); have hst := stretch hr h0 h1; rw [zLf, hd, Option.getD_some] at hst
 have hm : zav L.cls d = zav L.cls c := zh1 (zgU _ _ hlc) (zgU _ _ hlc) fun p hp => by
  rw [zeE _ _ _ hp, zeE _ _ _ hp]; cases hk : L.cls[p]? with
  | none => rfl
  | some k => simp [hst k (List.mem_of_getElem? hk)]
 rw [hm] at hc; have hn : zbQ ⟨zat L.cls, rule, goes, bnd⟩ i c = x := by
  unfold zbQ; show (goes.getD i []).getD _ (-1) = x; rw [zLf (l := goes), hg]; show row.getD _ (-1) = x; rw [zLf, hx]; rfl
 rw [hn]; exact hc
end
end Go.Proofs.YtghpmhllpaheiaaGreatDoor
