/-
  Part of the proof: Gt9, Gt10, Gt11. No condition beyond those in the statements.
-/
import Derived.Test.YtghpmhllpaheiaaGreatDoorL30
import Derived.Test.YtghpmhllpaheiaaGreatDoorL32
import Derived.Test.YtghpmhllpaheiaaGreatDoorL27
import Derived.Test.YtghpmhllpaheiaaGreatDoorL01
set_option linter.unusedVariables false
set_option linter.unusedSimpArgs false
namespace Go.Proofs.YtghpmhllpaheiaaGreatDoor
section
open Go.RowKit Go.Lib
theorem zi1 {α : Type} {f : α -> α} {l : List α} {i j : Nat} (h : i ≠ j) : (l.modify i f)[j]? = l[j]? := by
 rw [List.getElem?_modify]; cases l[j]? <;> simp [h]
theorem ziH {α : Type} {f : α -> α} {l : List α} {i : Nat} : (l.modify i f)[i]? = l[i]?.map f := by
 rw [List.getElem?_modify]; cases l[i]? <;> simp
theorem zj2 (G : List Knot) (q : Nat) (hq : 0 < q) (hq2 : q < 128) : ∀ (l : List Nat) (s : Set2), (l.foldl (fun s k => if 0 < zao G k then s.add (zao G k) else s) s).has q = true ↔ s.has q = true \/ ∃ k ∈ l, zao G k = q
 | [], s => by simp
 | k :: l, s => by
  rw [List.foldl_cons, zj2 G q hq hq2 l]; constructor
  . rintro (h | ⟨j, hj, h⟩)
    . split at h
      . rw [zd0 _ _ _ hq2, Bool.or_eq_true, decide_eq_true_eq] at h
        rcases h with h | h
        . exact .inl h
        exact .inr ⟨k, by simp, h.symm⟩
      exact .inl h
    exact .inr ⟨j, by simp [hj], h⟩
  rintro (h | ⟨j, hj, h⟩)
  . refine .inl ?_
    split
    . rw [zd0 _ _ _ hq2, h]; rfl
    exact h
  rcases List.mem_cons.1 hj with rfl | hj
  . refine .inl ?_
    rw [if_pos (by omega), zd0 _ _ _ hq2, h]; simp
  exact .inr ⟨j, hj, h⟩
theorem zkK (G : List Knot) (l : List Nat) (q : Nat) (hq : 0 < q) (hq2 : q < 128) : (zam G l).has q = true ↔ ∃ k ∈ l, zao G k = q := by
 unfold zam; rw [zj2 G q hq hq2, zdi]; simp
theorem zjA (G : List Knot) (hG : ∀ k, zao G k < 128) : ∀ (l : List Nat) (s : Set2), s.Ok -> (l.foldl (fun s k => if 0 < zao G k then s.add (zao G k) else s) s).Ok
 | [], s, h => h
 | k :: l, s, h => by
  rw [List.foldl_cons]; refine zjA G hG l _ ?_; split
  . exact zhB h (hG k)
  exact h
theorem zjp (G : List Knot) (Z : Nat -> Prop) (k : Nat) : (∃ x, Rch G k x /\ Z x) ↔ ∃ m, Hit G Z m k := by
 constructor
 . rintro ⟨x, ⟨n, hn⟩, hz⟩
   have key : ∀ (n k : Nat), RchN G n k x -> Hit G Z n k := by
    intro n
    induction n with
    | zero => intro k h; rw [RchN] at h; subst h; exact hz
    | succ n ih => rintro k ⟨j, hj, h⟩; exact Hit.cons hj (ih j h)
   exact ⟨n, key n k hn⟩
 rintro ⟨m, hm⟩
 have key : ∀ (m k : Nat), Hit G Z m k -> ∃ x, Rch G k x /\ Z x := by
  intro m
  induction m with
  | zero => intro k h; exact ⟨k, Rch.refl G k, h⟩
  | succ m ih =>
   rintro k (h | ⟨j, hj, h⟩)
   . exact ⟨k, Rch.refl G k, h⟩
   obtain ⟨x, h1, h2⟩ := ih j h
   exact ⟨x, Rch.step hj h1, h2⟩
 exact key m k hm
theorem zkm {t : Tree} {s : zaz} {e : Nat} {s1 : zaz} (hc : 1 <= s.cls.length) (h : layT t s.knots.length (s.push ⟨[], 0, false⟩) = some (e, s1)) :
 ∃ bs, s1.behind = s.behind ++ bs /\ bs.length = nPl t /\ s1.cls.length = s.cls.length + nPl t /\ s1.knots.length <= s.knots.length + 1 + cstT t /\ s.knots.length < s1.knots.length /\ (∀ b ∈ bs, b < s1.knots.length) /\
  (∀ k, (toOf s1.knots k).length <= (toOf s.knots k).length + cstT t) /\
  ((∀ k, ∀ j ∈ toOf s.knots k, j < s.knots.length) -> ∀ k, ∀ j ∈ toOf s1.knots k, j < s1.knots.length) /\
  (∀ q, 0 < q -> ((∃ x, Rch (s1.finish e).knots s.knots.length x /\ zao (s1.finish e).knots x = q) ↔ q ∈ fstT t s.cls.length)) /\
  (∀ x b, bs[x]? = some b -> (∀ q, 0 < q -> ((∃ x, Rch (s1.finish e).knots b x /\ zao (s1.finish e).knots x = q) ↔ folT t s.cls.length (s.cls.length + x) q)) /\
   ((∃ x, Rch (s1.finish e).knots b x /\ za7 (s1.finish e).knots x = true) ↔ (s.cls.length + x) ∈ lstT t s.cls.length)) := by
 have hl0 : (s.push ⟨[], 0, false⟩).knots.length = s.knots.length + 1 := zaK _ _; have hc0 : (s.push ⟨[], 0, false⟩).cls = s.cls := rfl; obtain ⟨Lnk, bs, hn⟩ := ze8 t s.knots.length (s.push ⟨[], 0, false⟩) e s1 (by omega) hc h; rw [hc0] at hn; have hlen := hn.len; have hlen2 := hn.len2; have he1 : e < s1.knots.length := by rcases hn.fin with h | h <;> omega
 have hto0 : ∀ k, toOf (s.push ⟨[], 0, false⟩).knots k = toOf s.knots k := fun k => by
  rw [zd4]; split
  . rw [zbw _ _ (by omega)]
  rfl
 have hpl0 : ∀ k, zao (s.push ⟨[], 0, false⟩).knots k = zao s.knots k := fun k => by
  rw [zdW]; split
  . rw [zdm _ _ (by omega)]
  rfl
 have hfn0 : ∀ k, za7 (s.push ⟨[], 0, false⟩).knots k = za7 s.knots k := fun k => by
  rw [zdg]; split
  . rw [zcz _ _ (by omega)]
  rfl
 have gto : ∀ k, toOf (s1.finish e).knots k = toOf s1.knots k := fun k => zdH _ _ _; have gpl : ∀ k, zao (s1.finish e).knots k = zao s1.knots k := fun k => zeH _ _ _; have gfn : ∀ k, za7 (s1.finish e).knots k = if k = e then true else za7 s1.knots k := fun k => zjd he1 k
 generalize (s1.finish e).knots = G at gto gpl gfn; have gi : toOf G s.knots.length = Lnk := by rw [gto, hn.at', hto0, zbw _ _ (Nat.le_refl _), List.nil_append]
 have pi : zao G s.knots.length = 0 := by rw [gpl, (hn.oldp _ (by omega)).1, hpl0, zdm _ _ (Nat.le_refl _)]
 have ge : toOf G e = [] /\ zao G e = 0 := by
  rcases hn.fin with ⟨rfl, _, _, _, hl⟩ | ⟨h1, h2⟩
  . exact ⟨by rw [gi, hl], pi⟩
  rw [gto, gpl]; exact hn.e0 h1
 have cmpP : ∀ q, 0 < q -> zaW G (fun x => zao G x = q) (fun p => p = q) (s.push ⟨[], 0, false⟩) s1 e := fun q hq => by
  refine ⟨fun k _ _ _ => gto k, fun k _ _ _ => ?_⟩; show zao G k = q ↔ _; rw [gpl]; constructor
  . intro h; exact ⟨by omega, h⟩
  intro h; exact h.2
 have cmpE : zaW G (fun x => za7 G x = true) (fun _ => False) (s.push ⟨[], 0, false⟩) s1 e := by
  refine ⟨fun k _ _ _ => gto k, fun k hk _ hne => ?_⟩; show za7 G k = true ↔ _; rw [gfn, if_neg hne, hn.nfin k hk]; simp
 have noe : ∀ q, 0 < q -> ∀ m, ¬ Hit G (fun x => zao G x = q) m e := fun q hq m hh => by
  cases m with
  | zero => have h' : zao G e = q := hh; omega
  | succ m =>
   rcases hh with hh | ⟨j, hj, _⟩
   . have h' : zao G e = q := hh; omega
   rw [ge.1] at hj; cases hj
 refine ⟨bs, hn.beh, hn.bl, hn.cls, by omega, by omega, hn.bsr, fun k => by have := hn.deg k; rw [hto0] at this; exact this, fun ho k j hj => ?_, fun q hq => ?_, fun x b hb => ⟨fun q hq => ?_, ?_⟩⟩
 . rcases Nat.lt_or_ge k (s.knots.length + 1) with hk | hk
   . by_cases hki : k = s.knots.length
     . subst hki
       rw [hn.at', hto0, zbw _ _ (Nat.le_refl _), List.nil_append] at hj; exact hn.lnk j hj
     rw [hn.old k (by omega) hki, hto0] at hj
     have := ho k j hj; omega
   exact hn.link k (by omega) j hj
 . rw [zjp G (fun x => zao G x = q)]
   constructor
   . rintro ⟨m, hm⟩
     cases m with
     | zero => have h' : zao G s.knots.length = q := hm; omega
     | succ m =>
      rcases hm with hm | ⟨j, hj, hm⟩
      . have h' : zao G s.knots.length = q := hm; omega
      rw [gi] at hj
      rcases hn.fwd G _ _ (cmpP q hq) m ⟨j, hj, hm⟩ with ⟨p, hp, rfl⟩ | ⟨_, _, h'⟩
      . exact hp
      exact absurd h' (noe q hq m)
   intro hf
   obtain ⟨m, j, hj, hm⟩ := hn.bwd1 G _ _ (cmpP q hq) q hf rfl; exact ⟨m + 1, Hit.cons (by rw [gi]; exact hj) hm⟩
 . rw [zjp G (fun x => zao G x = q)]
   constructor
   . rintro ⟨m, hm⟩
     rcases hn.bf G _ _ (cmpP q hq) x b hb m hm with ⟨p, hp, rfl⟩ | ⟨_, h'⟩
     . exact hp
     exact absurd h' (noe q hq m)
   intro hf
   exact hn.bb1 G _ _ (cmpP q hq) x b q hb hf rfl
 rw [zjp G (fun x => za7 G x = true)]
 constructor
 . rintro ⟨m, hm⟩
   rcases hn.bf G _ _ cmpE x b hb m hm with ⟨p, _, hp⟩ | ⟨h', _⟩
   . exact hp.elim
   exact h'
 intro hl
 exact hn.bb2 G _ _ cmpE x b hb hl 0 (by show za7 G e = true; rw [gfn, if_pos rfl])
mutual
theorem zdz : ∀ (t : Tree) (i p : Nat) (s s' : zaz), layT t i s = some (p, s') -> s'.cls = s.cls ++ clsT t
 | .cls c, i, p, s, s', h => by
  rw [layT] at h; split at h
  . cases h
  . cases h
    rw [clsT]
 | .row l, i, p, s, s', h => by
  rw [layT] at h; rw [clsT]; exact zki l i p s s' h
 | .either a b, i, p, s, s', h => by
  rw [layT] at h; split at h
  . cases h
  . rename_i p1 s2 e1
    split at h
    . cases h
    . rename_i q s3 e2
      cases h; have h1 := zdz a _ _ _ _ e1; have h2 := zdz b _ _ _ _ e2; show s3.cls = _; rw [h2, h1, clsT, <- List.append_assoc]; rfl
 | .rep t m o, i, p, s, s', h => by
  rw [layT] at h; split at h
  . cases h
  rename_i p1 s2 e1
  have h1 := zdz t _ _ _ _ e1; cases h; rw [clsT]; cases o <;> by_cases hm : m = 0 <;> simp only [hm, if_true, if_false, Bool.false_eq_true] <;> exact h1
theorem zki : ∀ (l : List Tree) (i p : Nat) (s s' : zaz), layR l i s = some (p, s') -> s'.cls = s.cls ++ clsR l
 | [], i, p, s, s', h => by
  rw [layR] at h; cases h; rw [clsR, List.append_nil]
 | t :: l, i, p, s, s', h => by
  rw [layR] at h; split at h
  . cases h
  rename_i q s2 e1
  rw [zki l _ _ _ _ h, zdz t _ _ _ _ e1, clsR, List.append_assoc]
end
mutual
theorem zdY : ∀ (t : Tree) (i : Nat) (s : zaz), s.cls.length + nPl t <= 65 -> ∃ p s', layT t i s = some (p, s')
 | .cls c, i, s, h => by
  rw [layT]; rw [nPl] at h; rw [if_neg (by omega)]; exact ⟨_, _, rfl⟩
 | .row l, i, s, h => by
  rw [nPl] at h; rw [layT]; exact ziQ l i s h
 | .either a b, i, s, h => by
  rw [nPl] at h; rw [layT]; obtain ⟨p, s2, e1⟩ := zdY a s.knots.length ((((s.push ⟨[], 0, false⟩).push ⟨[], 0, false⟩).push ⟨[], 0, false⟩).link i [s.knots.length, s.knots.length + 1]) (by show s.cls.length + _ <= 65; omega); rw [e1]; have h2 := zdz a _ _ _ _ e1; have hl := zef a; obtain ⟨q, s3, e2⟩ := zdY b (s.knots.length + 1) s2 (by rw [h2, List.length_append, hl]; show s.cls.length + _ + _ <= 65; omega); simp only [e2]; exact ⟨_, _, rfl⟩
 | .rep t m o, i, s, h => by
  rw [nPl] at h; rw [layT]; obtain ⟨p, s2, e1⟩ := zdY t s.knots.length (((s.push ⟨[], 0, false⟩).push ⟨[], 0, false⟩).link i [s.knots.length]) (by show s.cls.length + _ <= 65; omega); rw [e1]; exact ⟨_, _, rfl⟩
theorem ziQ : ∀ (l : List Tree) (i : Nat) (s : zaz), s.cls.length + nPlR l <= 65 -> ∃ p s', layR l i s = some (p, s')
 | [], i, s, h => ⟨i, s, by rw [layR]⟩
 | t :: l, i, s, h => by
  rw [nPlR] at h; rw [layR]; obtain ⟨p, s2, e1⟩ := zdY t i s (by omega); rw [e1]; have h2 := zdz t _ _ _ _ e1; have hl := zef t; exact ziQ l p s2 (by rw [h2, List.length_append, hl]; omega)
theorem zef : ∀ (t : Tree), (clsT t).length = nPl t
 | .cls c => rfl
 | .row l => by rw [clsT, nPl]; exact zj6 l
 | .either a b => by rw [clsT, nPl, List.length_append, zef a, zef b]
 | .rep t m o => by rw [clsT, nPl]; exact zef t
theorem zj6 : ∀ (l : List Tree), (clsR l).length = nPlR l
 | [] => rfl
 | t :: l => by rw [clsR, nPlR, List.length_append, zef t, zj6 l]
end
def nPlA : List Tree -> Nat
 | [] => 0
 | t :: r => nPl t + nPlA r
def cstA : List Tree -> Nat
 | [] => 0
 | t :: r => cstT t + 1 + cstA r
def fstA : List Tree -> Nat -> Nat -> Prop
 | [], _, _ => False
 | t :: r, n, q => q ∈ fstT t n \/ fstA r (n + nPl t) q
def folA : List Tree -> Nat -> Nat -> Nat -> Prop
 | [], _, _, _ => False
 | t :: r, n, p, q => folT t n p q \/ folA r (n + nPl t) p q
def rulA : List Tree -> Nat -> Nat -> Nat -> Int
 | [], _, _, _ => -1
 | t :: r, i, n, p => if p ∈ lstT t n then i else rulA r (i + 1) (n + nPl t) p
theorem folA_ge : ∀ (l : List Tree) (n p q : Nat), folA l n p q -> n <= p
 | [], n, p, q, h => h.elim
 | t :: r, n, p, q, h => by
  rcases h with h | h
  . exact (zcS t n p q h).1
  have := folA_ge r _ p q h; omega
theorem zjJ : ∀ (l : List Tree) (i n p : Nat), p < n -> rulA l i n p = -1
 | [], i, n, p, h => rfl
 | t :: r, i, n, p, h => by
  rw [rulA, if_neg (fun h' => by have := zb4 t n p h'; omega), zjJ r _ _ _ (by omega)]
theorem zhw {G : List Knot} {f i : Nat} : ∀ (bs : List Nat) (L L2 : Lay), zbh G f i bs L = some L2 -> L2.cls = L.cls /\
 ∃ fl rl, L2.follow = L.follow ++ fl /\ L2.rule = L.rule ++ rl /\ fl.length = bs.length /\ rl.length = bs.length /\ ∀ (x b : Nat), bs[x]? = some b -> ∃ l, dfs G f b [] = some l /\ fl[x]? = some (zam G l) /\ rl[x]? = some (if zbZ G l = true then (i : Int) else -1)
 | [], L, L2, h => by
  rw [zbh] at h; cases h; exact ⟨rfl, [], [], by simp, by simp, rfl, rfl, fun x b hb => by simp at hb⟩
 | b :: r, L, L2, h => by
  rw [zbh] at h; split at h
  . cases h
  rename_i l hl
  obtain ⟨h0, fl, rl, h1, h2, h3, h4, h5⟩ := zhw r _ _ h; refine ⟨h0, zam G l :: fl, (if zbZ G l = true then (i : Int) else -1) :: rl, by rw [h1]; simp, by rw [h2]; simp, by simp [h3], by simp [h4], fun x b' hb => ?_⟩; cases x with
  | zero =>
   simp only [zLb, Option.some.injEq] at hb; subst hb; exact ⟨l, hl, rfl, rfl⟩
  | succ x =>
   simp only [zLc] at hb ⊢; exact h5 x b' hb
theorem zd1 {G : List Knot} {f i : Nat} : ∀ (bs : List Nat) (L : Lay), (∀ b ∈ bs, ∃ l, dfs G f b [] = some l) -> ∃ L2, zbh G f i bs L = some L2
 | [], L, _ => ⟨L, by rw [zbh]⟩
 | b :: r, L, h => by
  rw [zbh]; obtain ⟨l, hl⟩ := h b (by simp); rw [hl]; exact zd1 r _ (fun b' hb => h b' (by simp [hb]))
theorem ends_iff (G : List Knot) {f k : Nat} {l : List Nat} (h : dfs G f k [] = some l) : zbZ G l = true ↔ ∃ x, Rch G k x /\ za7 G x = true := by
 unfold zbZ; rw [List.any_eq_true]; constructor
 . rintro ⟨x, hx, h'⟩; exact ⟨x, (zeY h x).1 hx, h'⟩
 rintro ⟨x, hx, h'⟩; exact ⟨x, (zeY h x).2 hx, h'⟩
theorem zhx (G : List Knot) {f k : Nat} {l : List Nat} (h : dfs G f k [] = some l) (q : Nat) (hq : 0 < q) (hq2 : q < 128) : (zam G l).has q = true ↔ ∃ x, Rch G k x /\ zao G x = q := by
 rw [zkK G l q hq hq2]; constructor
 . rintro ⟨x, hx, h'⟩; exact ⟨x, (zeY h x).1 hx, h'⟩
 rintro ⟨x, hx, h'⟩; exact ⟨x, (zeY h x).2 hx, h'⟩
theorem zku {f : Nat} : ∀ (ts : List Tree) (i : Nat) (s : zaz) (L : Lay) (s2 : zaz) (L2 : Lay), zbS f ts i s L = some (s2, L2) -> 1 <= s.cls.length -> L.cls = s.cls -> L.follow.length = s.cls.length -> L.rule.length = s.cls.length ->
 L2.cls = s2.cls /\ s2.cls = s.cls ++ ts.flatMap clsT /\ s2.cls.length = s.cls.length + nPlA ts /\ L2.follow.length = s2.cls.length /\ L2.rule.length = s2.cls.length /\ s2.knots.length <= s.knots.length + cstA ts /\
  (∀ k, (toOf s2.knots k).length <= (toOf s.knots k).length + cstA ts) /\
  (∀ q, 0 < q -> q < 128 -> ((L2.follow.getD 0 (0, 0)).has q = true ↔ (L.follow.getD 0 (0, 0)).has q = true \/ fstA ts s.cls.length q)) /\
  (∀ p, 0 < p -> p < s.cls.length -> L2.follow.getD p (0, 0) = L.follow.getD p (0, 0) /\ L2.rule.getD p (-1) = L.rule.getD p (-1)) /\ L2.rule.getD 0 (-1) = L.rule.getD 0 (-1) /\
  (∀ p, s.cls.length <= p -> p < s2.cls.length -> (∀ q, 0 < q -> q < 128 -> ((L2.follow.getD p (0, 0)).has q = true ↔ folA ts s.cls.length p q)) /\ L2.rule.getD p (-1) = rulA ts i s.cls.length p)
 | [], i, s, L, s2, L2, h, hc, h1, h2, h3 => by
  rw [zbS] at h; cases h; refine ⟨h1, by simp, rfl, h2, h3, Nat.le_refl _, fun _ => Nat.le_refl _, fun q _ _ => by simp [fstA], fun p _ _ => ⟨rfl, rfl⟩, rfl, fun p h4 h5 => by omega⟩
 | t :: r, i, s, L, s2, L2, h, hc, h1, h2, h3 => by
  rw [zbS] at h; split at h
  . cases h
  rename_i e s1 e1
  obtain ⟨bs, k1, k2, k3, k4, k5, k6, kd, k7, k8, k9⟩ := zkm hc e1; have kc := zdz t _ _ _ _ e1; have kc' : s1.cls = s.cls ++ clsT t := kc; split at h
  . cases h
  rename_i l0 e2
  split at h
  . cases h
  rename_i L1 e3
  have hb : s1.behind.drop s.behind.length = bs := by rw [k1]; simp
  rw [hb] at e3; obtain ⟨a0, fl, rl, a1, a2, a3, a4, a5⟩ := zhw bs _ _ e3; have a0' : L1.cls = s1.cls := a0; have a1' : L1.follow = L.follow.modify 0 (Set2.or · (zam (s1.finish e).knots l0)) ++ fl := a1; have a2' : L1.rule = L.rule ++ rl := a2; have hfc : (s1.finish e).cls = s1.cls := rfl; have hfk : (s1.finish e).knots.length = s1.knots.length := by simp [zaz.finish]
  have hft : ∀ k, toOf (s1.finish e).knots k = toOf s1.knots k := fun k => zdH _ _ _; obtain ⟨b1, b2, b3, b4, b5, bk, bd, b6, b7, b8, b9⟩ := zku r (i + 1) (s1.finish e) L1 s2 L2 h (by rw [hfc]; omega) (by rw [hfc]; exact a0') (by rw [hfc, a1', List.length_append, List.length_modify]; omega) (by rw [hfc, a2', List.length_append]; omega); rw [hfc] at b2 b3 b6 b7 b9; rw [k3] at b6 b7 b9; have hf0 : ∀ p, 0 < p -> p < s.cls.length -> L1.follow.getD p (0, 0) = L.follow.getD p (0, 0) := fun p hp hp2 => by
   rw [a1', zLf, List.getElem?_append_left (by rw [List.length_modify]; omega), zi1 (by omega), <- zLf]
  have hf00 : L1.follow.getD 0 (0, 0) = (L.follow.getD 0 (0, 0)).or (zam (s1.finish e).knots l0) := by
   rw [a1', zLf, List.getElem?_append_left (by rw [List.length_modify]; omega), ziH, zLf, zLe (by omega)]; rfl
  have hr0 : ∀ p, p < s.cls.length -> L1.rule.getD p (-1) = L.rule.getD p (-1) := fun p hp => by
   rw [a2', zLf, List.getElem?_append_left (by omega), <- zLf]
  refine ⟨b1, by rw [b2, kc', List.flatMap_cons, List.append_assoc], by rw [b3, k3, nPlA]; omega, b4, b5, by rw [hfk] at bk; rw [cstA]; omega, fun k => ?_, fun q hq hq2 => ?_, fun p hp hp2 => ?_, ?_, fun p hp hp2 => ?_⟩
  . have z1 := bd k
    have z2 := kd k; rw [hft] at z1; rw [cstA]; omega
  . rw [b6 q hq hq2, hf00, has_or, Bool.or_eq_true, zhx _ e2 q hq hq2, k8 q hq, or_assoc]
    rfl
  . obtain ⟨c1, c2⟩ := b7 p hp (by omega)
    exact ⟨c1.trans (hf0 p hp hp2), c2.trans (hr0 p hp2)⟩
  . rw [b8]; exact hr0 0 (by omega)
  by_cases hlt : p < s.cls.length + nPl t
  . obtain ⟨c1, c2⟩ := b7 p (by omega) hlt
    obtain ⟨x, rfl⟩ : ∃ x, p = s.cls.length + x := ⟨p - s.cls.length, by omega⟩; obtain ⟨b, hbx⟩ : ∃ b, bs[x]? = some b := ⟨_, zLe (by omega)⟩; obtain ⟨lb, d1, d2, d3⟩ := a5 x b hbx; obtain ⟨g1, g2⟩ := k9 x b hbx; have ef : L1.follow.getD (s.cls.length + x) (0, 0) = zam (s1.finish e).knots lb := by
     rw [a1', zLf, List.getElem?_append_right (by rw [List.length_modify]; omega), List.length_modify, show s.cls.length + x - L.follow.length = x by omega, d2]; rfl
    have er : L1.rule.getD (s.cls.length + x) (-1) = if zbZ (s1.finish e).knots lb = true then (i : Int) else -1 := by
     rw [a2', zLf, List.getElem?_append_right (by omega), show s.cls.length + x - L.rule.length = x by omega, d3]; rfl
    refine ⟨fun q hq hq2 => ?_, ?_⟩
    . rw [c1, ef, zhx _ d1 q hq hq2, g1 q hq, folA]
      constructor
      . exact .inl
      rintro (h' | h')
      . exact h'
      have := folA_ge r _ _ _ h'; omega
    rw [c2, er, rulA]
    have hiff : zbZ (s1.finish e).knots lb = true ↔ (s.cls.length + x) ∈ lstT t s.cls.length := by rw [ends_iff _ d1]; exact g2
    by_cases hl : (s.cls.length + x) ∈ lstT t s.cls.length
    . rw [if_pos hl, if_pos (hiff.2 hl)]
    rw [if_neg hl, if_neg (fun h' => hl (hiff.1 h')), zjJ _ _ _ _ hlt]
  obtain ⟨g1, g2⟩ := b9 p (by omega) hp2
  refine ⟨fun q hq hq2 => ?_, ?_⟩
  . rw [g1 q hq hq2, folA]
    constructor
    . exact .inr
    rintro (h' | h')
    . have := zcS t _ _ _ h'; omega
    exact h'
  rw [g2, rulA, if_neg (fun h' => by have := zb4 t _ _ h'; omega)]
theorem zko {f : Nat} {M D : Nat} (hf : M * (D + 2) + 1 <= f) : ∀ (ts : List Tree) (i : Nat) (s : zaz) (L : Lay), 1 <= s.cls.length -> s.cls.length + nPlA ts <= 65 -> (∀ k, ∀ j ∈ toOf s.knots k, j < s.knots.length) -> s.knots.length + cstA ts <= M -> (∀ k, (toOf s.knots k).length + cstA ts <= D) ->
 ∃ s2 L2, zbS f ts i s L = some (s2, L2)
 | [], i, s, L, _, _, _, _, _ => ⟨s, L, by rw [zbS]⟩
 | t :: r, i, s, L, hc, hn, hl, hM, hD => by
  rw [nPlA] at hn; rw [cstA] at hM; rw [zbS]; obtain ⟨e, s1, e1⟩ := zdY t s.knots.length (s.push ⟨[], 0, false⟩) (by show s.cls.length + _ <= 65; omega); rw [e1]; obtain ⟨bs, k1, k2, k3, k4, k5, k6, kd, k7, _⟩ := zkm hc e1; have hft : ∀ k, toOf (s1.finish e).knots k = toOf s1.knots k := fun k => zdH _ _ _; have hfk : (s1.finish e).knots.length = s1.knots.length := by simp [zaz.finish]
  have hG : NetOk (s1.finish e).knots D := ⟨fun k j hj => by rw [hft] at hj; rw [hfk]; exact k7 hl k j hj, fun k => by rw [hft]; have := kd k; have := hD k; rw [cstA] at this; omega⟩; have hfu : (s1.finish e).knots.length * (D + 2) + 1 <= f := by
   have : (s1.finish e).knots.length * (D + 2) <= M * (D + 2) := Nat.mul_le_mul_right _ (by rw [hfk]; omega); omega
  obtain ⟨l0, h0⟩ := zks hG (k := s.knots.length) (by rw [hfk]; exact k5) hfu; simp only [h0]; have hb : s1.behind.drop s.behind.length = bs := by rw [k1]; simp
  rw [hb]; obtain ⟨L1, h1⟩ := zd1 (G := (s1.finish e).knots) (f := f) (i := i) bs { L with cls := s1.cls, follow := L.follow.modify 0 (Set2.or · (zam (s1.finish e).knots l0)) } (fun b hb => zks hG (by rw [hfk]; exact k6 b hb) hfu); simp only [h1]; refine zko hf r (i + 1) (s1.finish e) L1 (by show 1 <= s1.cls.length; omega) (by show s1.cls.length + _ <= 65; omega) (fun k j hj => by rw [hft] at hj; rw [hfk]; exact k7 hl k j hj) (by rw [hfk]; omega) (fun k => ?_); rw [hft]; have := kd k; have := hD k; rw [cstA] at this; omega
end
section
open Go.RowKit Go.Lib
structure zc2 (L : Lay) (ts : List Tree) : Prop where
 cls : L.cls = [] :: ts.flatMap clsT
 len : L.cls.length = nPlA ts + 1
 lr : L.rule.length = L.cls.length
 lf : L.follow.length = L.cls.length
 fok : ∀ x ∈ L.follow, x.Ok
 fol0 : ∀ q, 0 < q -> q < 128 -> ((L.follow.getD 0 (0, 0)).has q = true ↔ fstA ts 1 q)
 fol : ∀ p, 1 <= p -> p < L.cls.length -> ∀ q, 0 < q -> q < 128 -> ((L.follow.getD p (0, 0)).has q = true ↔ folA ts 1 p q)
 rul0 : L.rule.getD 0 (-1) = -1
 rul : ∀ p, 1 <= p -> p < L.cls.length -> L.rule.getD p (-1) = rulA ts 0 1 p
theorem zfK {G : List Knot} {f i : Nat} (hG : ∀ k, zao G k < 128) : ∀ (bs : List Nat) (L L2 : Lay), zbh G f i bs L = some L2 -> (∀ x ∈ L.follow, x.Ok) -> ∀ x ∈ L2.follow, x.Ok
 | [], L, L2, h, hL => by
  rw [zbh] at h; cases h; exact hL
 | b :: r, L, L2, h, hL => by
  rw [zbh] at h; split at h
  . cases h
  rename_i l hl
  refine zfK hG r _ _ h fun x hx => ?_
  rcases List.mem_append.1 hx with hx | hx
  . exact hL x hx
  rw [List.mem_singleton] at hx
  rw [hx]; exact zjA G hG l (0, 0) zdX
theorem zkR {α : Type} {f : α -> α} {l : List α} {i : Nat} {x : α} (h : x ∈ l.modify i f) : x ∈ l \/ ∃ y ∈ l, x = f y := by
 obtain ⟨j, hj⟩ := List.mem_iff_getElem?.1 h; by_cases e : i = j
 . subst e
   rw [ziH] at hj; cases hl : l[i]? with
   | none => rw [hl] at hj; cases hj
   | some y =>
    rw [hl] at hj; cases hj; exact .inr ⟨y, List.mem_of_getElem? hl, rfl⟩
 rw [zi1 e] at hj
 exact .inl (List.mem_of_getElem? hj)
theorem zi4 {f : Nat} : ∀ (ts : List Tree) (i : Nat) (s : zaz) (L : Lay) (s2 : zaz) (L2 : Lay), zbS f ts i s L = some (s2, L2) -> PlOk s -> (∀ x ∈ L.follow, x.Ok) -> ∀ x ∈ L2.follow, x.Ok
 | [], i, s, L, s2, L2, h, _, hL => by
  rw [zbS] at h; cases h; exact hL
 | t :: r, i, s, L, s2, L2, h, hs, hL => by
  rw [zbS] at h; split at h
  . cases h
  rename_i e s1 e1
  have hp1 : PlOk (s1.finish e) := (zcW t _ _ _ _ e1 (hs.push [] 0 false (by omega))).finish e; have hG : ∀ k, zao (s1.finish e).knots k < 128 := fun k => by have := hp1 k; omega
  split at h
  . cases h
  rename_i l0 e2
  split at h
  . cases h
  rename_i L1 e3
  refine zi4 r _ _ _ _ _ h hp1 (zfK hG _ _ _ e3 fun x hx => ?_)
  rcases zkR hx with hx | ⟨y, hy, rfl⟩
  . exact hL x hx
  exact ok_or (hL y hy) (zjA _ hG l0 (0, 0) zdX)
theorem zhz : ∀ (ts : List Tree) (i n p : Nat), rulA ts i n p = -1 \/ ∃ k, rulA ts i n p = ((i + k : Nat) : Int) /\ k < ts.length
 | [], i, n, p => .inl rfl
 | t :: r, i, n, p => by
  rw [rulA]; split
  . exact .inr ⟨0, rfl, by simp⟩
  rcases zhz r (i + 1) (n + nPl t) p with h | ⟨k, h, hk⟩
  . exact .inl h
  exact .inr ⟨k + 1, by rw [h]; congr 1; omega, by simp; omega⟩
theorem laid {ts : List Tree} {f : Nat} {s2 : zaz} {L : Lay} (h : zbS f ts 0 lay0 zfk = some (s2, L)) : zc2 L ts /\ zfM s2 = zfM s2 /\ s2.knots.length <= cstA ts /\ (∀ k, (toOf s2.knots k).length <= cstA ts) /\ s2.cls.length = nPlA ts + 1 := by
 obtain ⟨h1, h2, h3, h4, h5, h6, h7, h8, h9, h10, h11⟩ := zku ts 0 lay0 zfk s2 L h (by decide) rfl rfl rfl; have hl : L.cls.length = s2.cls.length := by rw [h1]
 have h3' : s2.cls.length = 1 + nPlA ts := h3; refine ⟨⟨by rw [h1, h2]; rfl, by omega, by omega, by omega, zi4 ts 0 _ _ _ _ h (fun i => by simp [zao, lay0]) (fun x hx => by simp [zfk] at hx; subst hx; exact zdX), fun q hq hq2 => ?_, fun p hp hp2 q hq hq2 => (h11 p hp (by omega)).1 q hq hq2, h10, fun p hp hp2 => (h11 p hp (by omega)).2⟩, rfl, by simpa [lay0] using h6, fun k => by have := h7 k; simpa [toOf, lay0] using this, by omega⟩; rw [h8 q hq hq2]; constructor
 . rintro (h | h)
   . rw [show zfk.follow.getD 0 (0, 0) = (0, 0) from rfl, zdi] at h; cases h
   exact h
 exact .inr
theorem zkY {strs : List ByteArray} {trees : List Tree} (n1 : 1 <= strs.length) (n8 : strs.length <= 8) (small : ∀ s ∈ strs, s.size <= 60)
 (parse : ∀ (i : Nat) (s : ByteArray), strs[i]? = some s -> ∃ t, trees[i]? = some t /\ zds s = .ok t) (len : trees.length = strs.length) (hpl : nPlA trees <= 64) (hcst : cstA trees <= 1000000)
 (hrng : ∀ c ∈ trees.flatMap clsT, zbP c) (hcuts : (zba ([] :: trees.flatMap clsT)).length < 1000000) :
 ∃ f s2 L, zbS f trees 0 lay0 zfk = some (s2, L) /\ zc2 L trees /\
  ∀ rule goes, za1 L ((zat L.cls).map (zav L.cls)) 202 [(1, 0)] [] [] = some (rule, goes) ->
   ∃ sets fb best2 b2, zen L ((zat L.cls).map (zav L.cls)) sets rule goes /\ rule.length = sets.length /\
    zaN ⟨zat L.cls, rule, goes, 0⟩ fb goes.length 0 0 ⟨List.replicate goes.length 0, List.replicate goes.length 0, false⟩ = some (best2, b2) /\
    Comp strs ⟨zat L.cls, rule, goes, if b2.round then -1 else best2 + 1⟩ f trees s2 L rule goes strs.length fb best2 b2 := by
 obtain ⟨s2, L, hrun⟩ := zko (f := cstA trees * (cstA trees + 2) + 1) (M := cstA trees) (D := cstA trees) (Nat.le_refl _) trees 0 lay0 zfk (by decide) (by show 1 + _ <= 65; omega) (fun k j hj => by simp [toOf, lay0] at hj) (by show 0 + _ <= _; omega) (fun k => by simp [toOf, lay0]); obtain ⟨hS, _, hk, hd, hc⟩ := laid hrun; refine ⟨_, s2, L, hrun, hS, fun rule goes hm => ?_⟩; obtain ⟨sets, h1, h2⟩ := make_spec hm; have hr : ∀ c ∈ L.cls, zbP c := fun c hc => by
  rw [hS.cls] at hc
  rcases List.mem_cons.1 hc with rfl | hc
  . intro r hr; cases hr
  exact hrng c hc
 have hR : ∀ x ∈ L.rule, x < (strs.length : Int) := fun x hx => by
  obtain ⟨p, hp⟩ := List.mem_iff_getElem?.1 hx; have hlp := (List.getElem?_eq_some_iff.1 hp).1; have hg : L.rule.getD p (-1) = x := by rw [zLf, hp]; rfl
  rcases Nat.eq_zero_or_pos p with rfl | h0
  . rw [hS.rul0] at hg; omega
  rw [hS.rul p h0 (by rw [<- hS.lr]; exact hlp)] at hg
  rcases zhz trees 0 1 p with h | ⟨k, h, hk⟩ <;> omega
 have hW := wf_made hr hR h1 h2 0; have hz := h1.max; have hlg := h1.lg; obtain ⟨fb, best2, b2, hb, hbf⟩ := zkU hW (by show goes.length <= 201; omega); refine ⟨sets, fb, best2, b2, h1, h2, hb, n1, n8, small, parse, len, hrun, ⟨fun k => Nat.le_trans (hd k) hcst, by omega, by omega⟩, by rw [hS.len]; omega, by rw [hS.len]; omega, hr, by rw [hS.cls]; exact hcuts, hS.lr, hS.lf, hS.fok, hm, hW, hb, hbf, by omega, rfl⟩
end
section
open Go.RowKit Go.Lib
def letB (s : ByteArray) : Prop := ∀ p, p < s.size -> 97 <= byt s p /\ byt s p <= 99
def clW (s : ByteArray) (p : Nat) : List (Int × Int) := [((byt s p : Int), (byt s p : Int))]
def rowC (cs : List (List (Int × Int))) : List Tree := cs.map Tree.cls
def wcls (s : ByteArray) : List (List (Int × Int)) := (List.range' 0 s.size).map (clW s)
def zbN (s : ByteArray) : Tree := .row (rowC (wcls s))
theorem zgA {s : ByteArray} {p : Nat} (h : 97 <= byt s p /\ byt s p <= 99) : Utf8.decode s p = (byt s p, 1) := by
 rw [zdt, Lib.decodeN, if_pos (by omega)]
theorem zf4 {s : ByteArray} {p : Nat} (hp : p < s.size) (h : 97 <= byt s p /\ byt s p <= 99) : zbp s p = .ok (byt s p : Int) := by
 rw [zbp, if_pos hp, zgA h, if_neg (by dsimp only; omega)]
theorem zgu {s : ByteArray} {p : Nat} (hp : ¬ p < s.size) : zbp s p = .ok (-1) := by rw [zbp, if_neg hp]
theorem peekl_any {s : ByteArray} (hl : letB s) (p : Nat) : ∃ c : Int, zbp s p = .ok c /\ (c = -1 \/ (97 <= c /\ c <= 99)) := by
 by_cases hp : p < s.size
 . exact ⟨_, zf4 hp (hl p hp), .inr (by have := hl p hp; omega)⟩
 exact ⟨_, zgu hp, .inl rfl⟩
theorem atom_let {s : ByteArray} {p f d : Nat} (hp : p < s.size) (h : 97 <= byt s p /\ byt s p <= 99) : zgB s (f + 1) d p = .ok (.cls (clW s p), p + 1) := by
 have hs : zaV s p = .ok ((byt s p : Int), p + 1) := by
  rw [zaV, zem, zf4 hp h]; dsimp only; rw [zgA h]; simp only; rw [if_neg (show ¬ (byt s p : Int) = -1 by omega), if_neg (show ¬ (byt s p : Int) = 92 by omega)]
 rw [zgB, zf4 hp h]; dsimp only; rw [if_neg (by omega), if_neg (by omega), if_neg (by omega), if_neg (by omega), hs]; rfl
theorem again_let {s : ByteArray} (hl : letB s) (p : Nat) (t : Tree) : zer s p t = .ok (t, p) := by
 obtain ⟨c, hc, h⟩ := peekl_any hl p; rw [zer, hc]; dsimp only; rw [if_neg (by omega), if_neg (by omega), if_neg (by omega), if_neg (by omega)]
theorem row_let {s : ByteArray} (hl : letB s) : ∀ (k p f d : Nat) (l : List Tree), p + k = s.size -> k < f -> rowP s f d p l = .ok (.row (l ++ rowC ((List.range' p k).map (clW s))), s.size)
 | 0, p, f, d, l, hk, hf => by
  obtain ⟨f, rfl⟩ : ∃ g, f = g + 1 := ⟨f - 1, by omega⟩; rw [rowP, zgu (by omega)]; dsimp only; rw [if_pos (.inl rfl)]; simp [rowC]; omega
 | k + 1, p, f, d, l, hk, hf => by
  obtain ⟨f, rfl⟩ : ∃ g, f = g + 1 + 1 := ⟨f - 2, by omega⟩; have h := hl p (by omega); rw [rowP, zf4 (by omega) h]; dsimp only; rw [if_neg (by omega), atom_let (by omega) h]; dsimp only; rw [again_let hl]; dsimp only; rw [row_let hl k (p + 1) (f + 1) d _ (by omega) (by omega)]; simp [rowC, List.range'_succ]
theorem parse_let {s : ByteArray} (hl : letB s) : zds s = .ok (zbN s) := by
 have e : altP s (4 * s.size + 10) 0 0 = .ok (zbN s, s.size) := by
  rw [show 4 * s.size + 10 = (4 * s.size + 8) + 1 + 1 by omega, altP, row_let hl s.size 0 _ 0 [] (by omega) (by omega)]; dsimp only; rw [zc3, zgu (by omega)]; dsimp only; rw [if_neg (by decide)]; rfl
 rw [zds, e]; dsimp only; rw [if_neg (by omega)]
theorem zkf : ∀ cs, nPlR (rowC cs) = cs.length
 | [] => by rw [rowC, List.map_nil, nPlR]; rfl
 | c :: r => by
  have := zkf r; rw [rowC] at this ⊢; rw [List.map_cons, nPlR, nPl, this]; simp; omega
theorem zjZ : ∀ cs, cstR (rowC cs) = 2 * cs.length
 | [] => by rw [rowC, List.map_nil, cstR]; rfl
 | c :: r => by
  have := zjZ r; rw [rowC] at this ⊢; rw [List.map_cons, cstR, cstT, this]; simp; omega
theorem zkl : ∀ cs, clsR (rowC cs) = cs
 | [] => by rw [rowC, List.map_nil, clsR]
 | c :: r => by
  have := zkl r; rw [rowC] at this ⊢; rw [List.map_cons, clsR, clsT, this]; rfl
theorem nulR_cls (c : List (Int × Int)) (r : List (List (Int × Int))) : nulR (rowC (c :: r)) = false := by
 rw [rowC, List.map_cons, nulR, nulT]; rfl
theorem nulR_nil : nulR (rowC []) = true := by rw [rowC, List.map_nil, nulR]
theorem zkh (cs : List (List (Int × Int))) (n q : Nat) : q ∈ fstR (rowC cs) n ↔ q = n /\ 0 < cs.length := by
 cases cs with
 | nil => rw [rowC, List.map_nil, fstR]; simp
 | cons c r => rw [rowC, List.map_cons, fstR, fstT, nulT]; simp
theorem zj1 : ∀ (cs : List (List (Int × Int))) (n p : Nat), p ∈ lstR (rowC cs) n ↔ p + 1 = n + cs.length /\ 0 < cs.length
 | [], n, p => by rw [rowC, List.map_nil, lstR]; simp
 | c :: r, n, p => by
  have ih := zj1 r (n + 1) p; rw [show rowC (c :: r) = Tree.cls c :: rowC r from rfl, lstR, lstT, nPl, List.mem_append, ih]; cases r with
  | nil => rw [nulR_nil]; simp
  | cons d r =>
   rw [nulR_cls]; simp; omega
theorem zkx : ∀ (cs : List (List (Int × Int))) (n p q : Nat), folR (rowC cs) n p q ↔ n <= p /\ q = p + 1 /\ q < n + cs.length
 | [], n, p, q => by rw [rowC, List.map_nil, folR]; simp; omega
 | c :: r, n, p, q => by
  have ih := zkx r (n + 1) p q; rw [show rowC (c :: r) = Tree.cls c :: rowC r from rfl, folR, folT, nPl, ih, lstT, zkh]; simp only [List.mem_singleton, List.length_cons, false_or]; omega
theorem zcR (s : ByteArray) : (wcls s).length = s.size := by simp [wcls]
theorem zeQ (s : ByteArray) : nPl (zbN s) = s.size := by rw [zbN, nPl, zkf, zcR]
theorem cst_word (s : ByteArray) : cstT (zbN s) = 2 * s.size := by rw [zbN, cstT, zjZ, zcR]
theorem zfU (s : ByteArray) : clsT (zbN s) = wcls s := by rw [zbN, clsT, zkl]
theorem fst_word (s : ByteArray) (n q : Nat) : q ∈ fstT (zbN s) n ↔ q = n /\ 0 < s.size := by rw [zbN, fstT, zkh, zcR]
theorem zhW (s : ByteArray) (n p : Nat) : p ∈ lstT (zbN s) n ↔ p + 1 = n + s.size /\ 0 < s.size := by rw [zbN, lstT, zj1, zcR]
theorem fol_word (s : ByteArray) (n p q : Nat) : folT (zbN s) n p q ↔ n <= p /\ q = p + 1 /\ q < n + s.size := by rw [zbN, folT, zkx, zcR]
def offN (n : Nat) (ws : List ByteArray) (i : Nat) : Nat := n + ((ws.take i).map ByteArray.size).sum
def totN (ws : List ByteArray) : Nat := (ws.map ByteArray.size).sum
theorem zcH (n : Nat) (ws : List ByteArray) : offN n ws 0 = n := by simp [offN]
theorem zbX (n : Nat) (w : ByteArray) (r : List ByteArray) (i : Nat) : offN n (w :: r) (i + 1) = offN (n + w.size) r i := by simp [offN]; omega
theorem zd9 (n : Nat) (ws : List ByteArray) (i : Nat) : n <= offN n ws i := Nat.le_add_right ..
theorem zdD : ∀ (ws : List ByteArray) (n i : Nat) (w : ByteArray), ws[i]? = some w -> offN n ws i + w.size <= n + totN ws
 | [], n, i, w, h => by simp at h
 | v :: r, n, 0, w, h => by
  simp only [zLb, Option.some.injEq] at h; subst h; rw [zcH]; simp [totN]
 | v :: r, n, i + 1, w, h => by
  have := zdD r (n + v.size) i w (by simpa using h); rw [zbX]; simp only [totN, List.map_cons, List.sum_cons] at this ⊢; omega
theorem zfs : ∀ (ws : List ByteArray) (n i j : Nat) (w : ByteArray), ws[i]? = some w -> i < j -> offN n ws i + w.size <= offN n ws j
 | [], n, i, j, w, h, _ => by simp at h
 | v :: r, n, 0, j, w, h, hj => by
  simp only [zLb, Option.some.injEq] at h; subst h; obtain ⟨j, rfl⟩ : ∃ k, j = k + 1 := ⟨j - 1, by omega⟩; rw [zcH, zbX]; exact zd9 _ _ _
 | v :: r, n, i + 1, j, w, h, hj => by
  obtain ⟨j, rfl⟩ : ∃ k, j = k + 1 := ⟨j - 1, by omega⟩; rw [zbX, zbX]; exact zfs r _ i j w (by simpa using h) (by omega)
theorem offN_one {ws : List ByteArray} {n i j p : Nat} {w v : ByteArray} (hi : ws[i]? = some w) (hj : ws[j]? = some v) (h1 : offN n ws i <= p) (h2 : p < offN n ws i + w.size) (h3 : offN n ws j <= p) (h4 : p < offN n ws j + v.size) : i = j := by
 rcases Nat.lt_trichotomy i j with h | h | h
 . have := zfs ws n i j w hi h; omega
 . exact h
 have := zfs ws n j i v hj h; omega
theorem zfC : ∀ ws : List ByteArray, nPlA (ws.map zbN) = totN ws
 | [] => rfl
 | w :: r => by rw [List.map_cons, nPlA, zeQ, zfC r]; simp [totN]
theorem zht : ∀ ws : List ByteArray, cstA (ws.map zbN) = 2 * totN ws + ws.length
 | [] => rfl
 | w :: r => by rw [List.map_cons, cstA, cst_word, zht r]; simp [totN]; omega
theorem zft : ∀ (ws : List ByteArray) (n q : Nat), fstA (ws.map zbN) n q ↔ ∃ i w, ws[i]? = some w /\ q = offN n ws i /\ 0 < w.size
 | [], n, q => by simp [fstA]
 | w :: r, n, q => by
  rw [List.map_cons, fstA, fst_word, zft r, zeQ]; constructor
  . rintro (⟨h1, h2⟩ | ⟨i, v, h1, h2, h3⟩)
    . exact ⟨0, w, rfl, by rw [zcH]; exact h1, h2⟩
    exact ⟨i + 1, v, by simpa using h1, by rw [zbX]; exact h2, h3⟩
  rintro ⟨i, v, h1, h2, h3⟩
  cases i with
  | zero =>
   simp only [zLb, Option.some.injEq] at h1; subst h1; exact .inl ⟨by rw [zcH] at h2; exact h2, h3⟩
  | succ i => exact .inr ⟨i, v, by simpa using h1, by rw [zbX] at h2; exact h2, h3⟩
theorem zfi : ∀ (ws : List ByteArray) (n p q : Nat), folA (ws.map zbN) n p q ↔ ∃ i w, ws[i]? = some w /\ offN n ws i <= p /\ q = p + 1 /\ q < offN n ws i + w.size
 | [], n, p, q => by simp [folA]
 | w :: r, n, p, q => by
  rw [List.map_cons, folA, fol_word, zfi r, zeQ]; constructor
  . rintro (h | ⟨i, v, h1, h2⟩)
    . exact ⟨0, w, rfl, by rw [zcH]; exact h⟩
    exact ⟨i + 1, v, by simpa using h1, by rw [zbX]; exact h2⟩
  rintro ⟨i, v, h1, h2⟩
  cases i with
  | zero =>
   simp only [zLb, Option.some.injEq] at h1; subst h1; rw [zcH] at h2; exact .inl h2
  | succ i =>
   rw [zbX] at h2; exact .inr ⟨i, v, by simpa using h1, h2⟩
theorem zhD : ∀ (ws : List ByteArray) (i0 n i j : Nat) (w : ByteArray), ws[i]? = some w -> j < w.size -> rulA (ws.map zbN) i0 n (offN n ws i + j) = if j + 1 = w.size then ((i0 + i : Nat) : Int) else -1
 | [], i0, n, i, j, w, h, _ => by simp at h
 | v :: r, i0, n, 0, j, w, h, hj => by
  simp only [zLb, Option.some.injEq] at h; subst h; rw [List.map_cons, rulA, zcH]; by_cases e : j + 1 = v.size
  . rw [if_pos ((zhW v n _).2 (by omega)), if_pos e]; simp
  . rw [if_neg (fun h => e (by have := (zhW v n _).1 h; omega)), if_neg e, zjJ _ _ _ _ (by rw [zeQ]; omega)]
 | v :: r, i0, n, i + 1, j, w, h, hj => by
  have ih := zhD r (i0 + 1) (n + v.size) i j w (by simpa using h) hj; rw [List.map_cons, rulA, zbX, zeQ, ih, if_neg (fun h => by have := (zhW v n _).1 h; have := zd9 (n + v.size) r i; omega)]; split
  . congr 1; omega
  rfl
theorem ziA : ∀ (ws : List ByteArray) (i j : Nat) (w : ByteArray), ws[i]? = some w -> j < w.size -> ((ws.map zbN).flatMap clsT)[offN 0 ws i + j]? = some (clW w j)
 | [], i, j, w, h, _ => by simp at h
 | v :: r, 0, j, w, h, hj => by
  simp only [zLb, Option.some.injEq] at h; subst h; rw [zcH, Nat.zero_add, List.map_cons, List.flatMap_cons, zfU, List.getElem?_append_left (by rw [zcR]; exact hj)]; simp [wcls, hj]
 | v :: r, i + 1, j, w, h, hj => by
  have ih := ziA r i j w (by simpa using h) hj; rw [zbX, List.map_cons, List.flatMap_cons, zfU, List.getElem?_append_right (by rw [zcR]; have := zd9 (0 + v.size) r i; omega), zcR]; have e : offN (0 + v.size) r i + j - v.size = offN 0 r i + j := by simp [offN]; omega
  rw [e]; exact ih
theorem off_shift (n : Nat) (ws : List ByteArray) (i : Nat) : offN (n + 1) ws i = offN n ws i + 1 := by simp [offN]; omega
theorem words_rng {ws : List ByteArray} (hl : ∀ w ∈ ws, letB w) : ∀ c ∈ (ws.map zbN).flatMap clsT, zbP c /\ c.length = 1 := by
 intro c hc; rw [List.mem_flatMap] at hc; obtain ⟨t, ht, hc⟩ := hc; rw [List.mem_map] at ht; obtain ⟨w, hw, rfl⟩ := ht; rw [zfU, wcls, List.mem_map] at hc; obtain ⟨p, hp, rfl⟩ := hc; have hp2 : p < w.size := by simpa using hp
 have := hl w hw p hp2; refine ⟨fun r hr => ?_, rfl⟩; rw [clW, List.mem_singleton] at hr; subst hr; dsimp only; omega
end
end Go.Proofs.YtghpmhllpaheiaaGreatDoor
