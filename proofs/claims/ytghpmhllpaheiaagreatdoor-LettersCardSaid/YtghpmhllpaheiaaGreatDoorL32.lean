/-
  Part of the proof: Gt5, Gt6, Gt7, Gt8. No condition beyond those in the statements.
-/
import Derived.Test.YtghpmhllpaheiaaGreatDoorL18
import Derived.Test.YtghpmhllpaheiaaGreatDoorL31
set_option linter.unusedVariables false
set_option linter.unusedSimpArgs false
namespace Go.Proofs.YtghpmhllpaheiaaGreatDoor
mutual
def nPl : Tree -> Nat
 | .cls _ => 1
 | .row l => nPlR l
 | .either a b => nPl a + nPl b
 | .rep t _ _ => nPl t
def nPlR : List Tree -> Nat
 | [] => 0
 | t :: l => nPl t + nPlR l
end
mutual
def nulT : Tree -> Bool
 | .cls _ => false
 | .row l => nulR l
 | .either a b => nulT a || nulT b
 | .rep t m _ => nulT t || decide (m = 0)
def nulR : List Tree -> Bool
 | [] => true
 | t :: l => nulT t && nulR l
end
mutual
def fstT : Tree -> Nat -> List Nat
 | .cls _, n => [n]
 | .row l, n => fstR l n
 | .either a b, n => fstT a n ++ fstT b (n + nPl a)
 | .rep t _ _, n => fstT t n
def fstR : List Tree -> Nat -> List Nat
 | [], _ => []
 | t :: l, n => fstT t n ++ (if nulT t = true then fstR l (n + nPl t) else [])
end
mutual
def lstT : Tree -> Nat -> List Nat
 | .cls _, n => [n]
 | .row l, n => lstR l n
 | .either a b, n => lstT a n ++ lstT b (n + nPl a)
 | .rep t _ _, n => lstT t n
def lstR : List Tree -> Nat -> List Nat
 | [], _ => []
 | t :: l, n => (if nulR l = true then lstT t n else []) ++ lstR l (n + nPl t)
end
mutual
def folT : Tree -> Nat -> Nat -> Nat -> Prop
 | .cls _, _, _, _ => False
 | .row l, n, p, q => folR l n p q
 | .either a b, n, p, q => folT a n p q \/ folT b (n + nPl a) p q
 | .rep t _ once, n, p, q => folT t n p q \/ (once = false /\ p ∈ lstT t n /\ q ∈ fstT t n)
def folR : List Tree -> Nat -> Nat -> Nat -> Prop
 | [], _, _, _ => False
 | t :: l, n, p, q => folT t n p q \/ folR l (n + nPl t) p q \/ (p ∈ lstT t n /\ q ∈ fstR l (n + nPl t))
end
mutual
def cstT : Tree -> Nat
 | .cls _ => 2
 | .row l => cstR l
 | .either a b => cstT a + cstT b + 4
 | .rep t _ _ => cstT t + 5
def cstR : List Tree -> Nat
 | [] => 0
 | t :: l => cstT t + cstR l
end
mutual
def clsT : Tree -> List (List (Int × Int))
 | .cls c => [c]
 | .row l => clsR l
 | .either a b => clsT a ++ clsT b
 | .rep t _ _ => clsT t
def clsR : List Tree -> List (List (Int × Int))
 | [] => []
 | t :: l => clsT t ++ clsR l
end
mutual
theorem zb4 : ∀ (t : Tree) (n p : Nat), p ∈ lstT t n -> n <= p /\ p < n + nPl t
 | .cls c, n, p, h => by simp [lstT] at h; simp [nPl]; omega
 | .row l, n, p, h => by rw [lstT] at h; rw [nPl]; exact zig l n p h
 | .either a b, n, p, h => by
  rw [lstT, List.mem_append] at h; rw [nPl]
  rcases h with h | h
  . have := zb4 a n p h; omega
  . have := zb4 b _ p h; omega
 | .rep t m o, n, p, h => by rw [lstT] at h; rw [nPl]; exact zb4 t n p h
theorem zig : ∀ (l : List Tree) (n p : Nat), p ∈ lstR l n -> n <= p /\ p < n + nPlR l
 | [], n, p, h => by simp [lstR] at h
 | t :: l, n, p, h => by
  rw [lstR, List.mem_append] at h; rw [nPlR]
  rcases h with h | h
  . split at h
    . have := zb4 t n p h; omega
    cases h
  have := zig l _ p h; omega
end
mutual
theorem zcS : ∀ (t : Tree) (n p q : Nat), folT t n p q -> n <= p /\ p < n + nPl t
 | .cls c, n, p, q, h => by rw [folT] at h; exact h.elim
 | .row l, n, p, q, h => by rw [folT] at h; rw [nPl]; exact zhX l n p q h
 | .either a b, n, p, q, h => by
  rw [folT] at h; rw [nPl]
  rcases h with h | h
  . have := zcS a n p q h; omega
  . have := zcS b _ p q h; omega
 | .rep t m o, n, p, q, h => by
  rw [folT] at h; rw [nPl]
  rcases h with h | h
  . exact zcS t n p q h
  exact zb4 t n p h.2.1
theorem zhX : ∀ (l : List Tree) (n p q : Nat), folR l n p q -> n <= p /\ p < n + nPlR l
 | [], n, p, q, h => by rw [folR] at h; exact h.elim
 | t :: l, n, p, q, h => by
  rw [folR] at h; rw [nPlR]
  rcases h with h | h | h
  . have := zcS t n p q h; omega
  . have := zhX l _ p q h; omega
  have := zb4 t n p h.1; omega
end
theorem zd4 (s : zaz) (k : Knot) (j : Nat) : toOf (s.push k).knots j = if j = s.knots.length then k.to else toOf s.knots j := by
 show toOf (s.knots ++ [k]) j = _; unfold toOf
 rcases Nat.lt_trichotomy j s.knots.length with h | h | h
 . rw [List.getElem?_append_left h, if_neg (by omega)]
 . subst h; simp
 rw [if_neg (by omega), List.getElem?_append_right (by omega), List.getElem?_eq_none (l := s.knots) (by omega), List.getElem?_eq_none (by simp; omega)]
theorem zdW (s : zaz) (k : Knot) (j : Nat) : zao (s.push k).knots j = if j = s.knots.length then k.place else zao s.knots j := by
 show zao (s.knots ++ [k]) j = _; unfold zao
 rcases Nat.lt_trichotomy j s.knots.length with h | h | h
 . rw [List.getElem?_append_left h, if_neg (by omega)]
 . subst h; simp
 rw [if_neg (by omega), List.getElem?_append_right (by omega), List.getElem?_eq_none (l := s.knots) (by omega), List.getElem?_eq_none (by simp; omega)]
theorem zdg (s : zaz) (k : Knot) (j : Nat) : za7 (s.push k).knots j = if j = s.knots.length then k.fin else za7 s.knots j := by
 show za7 (s.knots ++ [k]) j = _; unfold za7
 rcases Nat.lt_trichotomy j s.knots.length with h | h | h
 . rw [List.getElem?_append_left h, if_neg (by omega)]
 . subst h; simp
 rw [if_neg (by omega), List.getElem?_append_right (by omega), List.getElem?_eq_none (l := s.knots) (by omega), List.getElem?_eq_none (by simp; omega)]
theorem zdR (s : zaz) (i : Nat) (l : List Nat) (j : Nat) (hi : i < s.knots.length) : toOf (s.link i l).knots j = if j = i then toOf s.knots j ++ l else toOf s.knots j := by
 show toOf (s.knots.modify i (zeL l)) j = _; split
 . rename_i h; subst h; exact zd7 hi
 rename_i h; exact zf3 (Ne.symm h)
theorem zfB (s : zaz) (i : Nat) (l : List Nat) (j : Nat) : zao (s.link i l).knots j = zao s.knots j := zdF (f := zeL l) (fun _ => rfl) i j
theorem zec (s : zaz) (i : Nat) (l : List Nat) (j : Nat) : za7 (s.link i l).knots j = za7 s.knots j := ziZ (f := zeL l) (fun _ => rfl) i j
theorem zaK (s : zaz) (k : Knot) : (s.push k).knots.length = s.knots.length + 1 := by show (s.knots ++ [k]).length = _; simp
theorem zcj (s : zaz) (i : Nat) (l : List Nat) : (s.link i l).knots.length = s.knots.length := by show (s.knots.modify i (zeL l)).length = _; simp
theorem zbw (G : List Knot) (k : Nat) (h : G.length <= k) : toOf G k = [] := by unfold toOf; rw [List.getElem?_eq_none h]; rfl
theorem zdm (G : List Knot) (k : Nat) (h : G.length <= k) : zao G k = 0 := by unfold zao; rw [List.getElem?_eq_none h]; rfl
theorem zcz (G : List Knot) (k : Nat) (h : G.length <= k) : za7 G k = false := by unfold za7; rw [List.getElem?_eq_none h]; rfl
def Hit (G : List Knot) (Z : Nat -> Prop) : Nat -> Nat -> Prop
 | 0, k => Z k
 | m + 1, k => Z k \/ ∃ j ∈ toOf G k, Hit G Z m j
theorem Hit.up {G : List Knot} {Z : Nat -> Prop} : ∀ {m k : Nat}, Hit G Z m k -> Hit G Z (m + 1) k
 | 0, k, h => .inl h
 | m + 1, k, h => by
  rcases h with h | ⟨j, hj, h⟩
  . exact .inl h
  exact .inr ⟨j, hj, h.up⟩
theorem Hit.mono {G : List Knot} {Z : Nat -> Prop} {m m' k : Nat} (h : Hit G Z m k) (hm : m <= m') : Hit G Z m' k := by
 induction hm with
 | refl => exact h
 | step _ ih => exact ih.up
theorem Hit.cons {G : List Knot} {Z : Nat -> Prop} {m k j : Nat} (hj : j ∈ toOf G k) (h : Hit G Z m j) : Hit G Z (m + 1) k := .inr ⟨j, hj, h⟩
structure zaW (G : List Knot) (Z ZP : Nat -> Prop) (s s' : zaz) (e : Nat) : Prop where
 lk : ∀ k, s.knots.length <= k -> k < s'.knots.length -> k ≠ e -> toOf G k = toOf s'.knots k
 z : ∀ k, s.knots.length <= k -> k < s'.knots.length -> k ≠ e -> (Z k ↔ 0 < zao s'.knots k /\ ZP (zao s'.knots k))
structure NetR (nP c : Nat) (nu : Bool) (fs ls : List Nat) (fo : Nat -> Nat -> Prop) (i e : Nat) (s s' : zaz) (Lnk bs : List Nat) : Prop where
 cls : s'.cls.length = s.cls.length + nP
 beh : s'.behind = s.behind ++ bs
 bl : bs.length = nP
 len : s.knots.length <= s'.knots.length
 len2 : s'.knots.length <= s.knots.length + c
 fin : (e = i /\ s' = s /\ nu = true /\ fs = [] /\ Lnk = []) \/ (s.knots.length <= e /\ e < s'.knots.length)
 old : ∀ k, k < s.knots.length -> k ≠ i -> toOf s'.knots k = toOf s.knots k
 at' : toOf s'.knots i = toOf s.knots i ++ Lnk
 oldp : ∀ k, k < s.knots.length -> zao s'.knots k = zao s.knots k /\ za7 s'.knots k = za7 s.knots k
 e0 : s.knots.length <= e -> toOf s'.knots e = [] /\ zao s'.knots e = 0
 nfin : ∀ k, s.knots.length <= k -> za7 s'.knots k = false
 lnk : ∀ j ∈ Lnk, j < s'.knots.length
 link : ∀ k, s.knots.length <= k -> ∀ j ∈ toOf s'.knots k, j < s'.knots.length
 deg : ∀ k, (toOf s'.knots k).length <= (toOf s.knots k).length + c
 bsr : ∀ b ∈ bs, b < s'.knots.length
 fwd : ∀ G Z ZP, zaW G Z ZP s s' e -> ∀ m, (∃ j ∈ Lnk, Hit G Z m j) -> (∃ p ∈ fs, ZP p) \/ (nu = true /\ e ≠ i /\ Hit G Z m e)
 bwd1 : ∀ G Z ZP, zaW G Z ZP s s' e -> ∀ p ∈ fs, ZP p -> ∃ m, ∃ j ∈ Lnk, Hit G Z m j
 bwd2 : ∀ G Z ZP, zaW G Z ZP s s' e -> nu = true -> e ≠ i -> ∀ m, Hit G Z m e -> ∃ m', ∃ j ∈ Lnk, Hit G Z m' j
 bf : ∀ G Z ZP, zaW G Z ZP s s' e -> ∀ x b, bs[x]? = some b -> ∀ m, Hit G Z m b -> (∃ q, fo (s.cls.length + x) q /\ ZP q) \/ ((s.cls.length + x) ∈ ls /\ Hit G Z m e)
 bb1 : ∀ G Z ZP, zaW G Z ZP s s' e -> ∀ x b q, bs[x]? = some b -> fo (s.cls.length + x) q -> ZP q -> ∃ m, Hit G Z m b
 bb2 : ∀ G Z ZP, zaW G Z ZP s s' e -> ∀ x b, bs[x]? = some b -> (s.cls.length + x) ∈ ls -> ∀ m, Hit G Z m e -> ∃ m', Hit G Z m' b
theorem net_cls (c : List (Int × Int)) {i : Nat} {s : zaz} (hi : i < s.knots.length) (hc : 1 <= s.cls.length) :
 NetR 1 2 false [s.cls.length] [s.cls.length] (fun _ _ => False) i s.knots.length s { (((s.push ⟨[], 0, false⟩).push ⟨[], s.cls.length, false⟩).link i [s.knots.length + 1]) with cls := s.cls ++ [c], behind := s.behind ++ [s.knots.length] } [s.knots.length + 1] [s.knots.length] := by
 have hl1 : i < ((s.push ⟨[], 0, false⟩).push ⟨[], s.cls.length, false⟩).knots.length := by rw [zaK, zaK]; omega
 have hto : ∀ k, toOf (((s.push ⟨[], 0, false⟩).push ⟨[], s.cls.length, false⟩).link i [s.knots.length + 1]).knots k = if k = i then toOf s.knots k ++ [s.knots.length + 1] else if k = s.knots.length \/ k = s.knots.length + 1 then [] else toOf s.knots k := fun k => by
  rw [zdR _ _ _ _ hl1, zd4, zd4, zaK]; by_cases h1 : k = i
  . subst h1
    rw [if_pos rfl, if_pos rfl, if_neg (by omega), if_neg (by omega)]
  rw [if_neg h1, if_neg h1]
  by_cases h2 : k = s.knots.length + 1
  . rw [if_pos h2, if_pos (.inr h2)]
  rw [if_neg h2]
  by_cases h3 : k = s.knots.length
  . rw [if_pos h3, if_pos (.inl h3)]
  rw [if_neg h3, if_neg (by omega)]
 have hpl : ∀ k, zao (((s.push ⟨[], 0, false⟩).push ⟨[], s.cls.length, false⟩).link i [s.knots.length + 1]).knots k = if k = s.knots.length + 1 then s.cls.length else if k = s.knots.length then 0 else zao s.knots k := fun k => by
  rw [zfB, zdW, zdW, zaK]
 have hfn : ∀ k, za7 (((s.push ⟨[], 0, false⟩).push ⟨[], s.cls.length, false⟩).link i [s.knots.length + 1]).knots k = if k = s.knots.length + 1 then false else if k = s.knots.length then false else za7 s.knots k := fun k => by
  rw [zec, zdg, zdg, zaK]
 have hln : (((s.push ⟨[], 0, false⟩).push ⟨[], s.cls.length, false⟩).link i [s.knots.length + 1]).knots.length = s.knots.length + 2 := by rw [zcj, zaK, zaK]
 have hpz : ∀ G Z ZP, zaW G Z ZP s { (((s.push ⟨[], 0, false⟩).push ⟨[], s.cls.length, false⟩).link i [s.knots.length + 1]) with cls := s.cls ++ [c], behind := s.behind ++ [s.knots.length] } s.knots.length -> toOf G (s.knots.length + 1) = [] /\ (Z (s.knots.length + 1) ↔ ZP s.cls.length) := fun G Z ZP hG => by
  have h1 := hG.lk (s.knots.length + 1) (by omega) (by show _ < (((s.push ⟨[], 0, false⟩).push ⟨[], s.cls.length, false⟩).link i [s.knots.length + 1]).knots.length; omega) (by omega); have h2 := hG.z (s.knots.length + 1) (by omega) (by show _ < (((s.push ⟨[], 0, false⟩).push ⟨[], s.cls.length, false⟩).link i [s.knots.length + 1]).knots.length; omega) (by omega); rw [show toOf ({ (((s.push ⟨[], 0, false⟩).push ⟨[], s.cls.length, false⟩).link i [s.knots.length + 1]) with cls := s.cls ++ [c], behind := s.behind ++ [s.knots.length] } : zaz).knots (s.knots.length + 1) = [] from by
   show toOf (((s.push ⟨[], 0, false⟩).push ⟨[], s.cls.length, false⟩).link i [s.knots.length + 1]).knots _ = []; rw [hto, if_neg (by omega), if_pos (.inr rfl)]] at h1
  rw [show zao ({ (((s.push ⟨[], 0, false⟩).push ⟨[], s.cls.length, false⟩).link i [s.knots.length + 1]) with cls := s.cls ++ [c], behind := s.behind ++ [s.knots.length] } : zaz).knots (s.knots.length + 1) = s.cls.length from by
   show zao (((s.push ⟨[], 0, false⟩).push ⟨[], s.cls.length, false⟩).link i [s.knots.length + 1]).knots _ = _; rw [hpl, if_pos rfl]] at h2
  exact ⟨h1, h2.trans ⟨fun h => h.2, fun h => ⟨by omega, h⟩⟩⟩
 generalize (((s.push ⟨[], 0, false⟩).push ⟨[], s.cls.length, false⟩).link i [s.knots.length + 1]) = s1 at hto hpl hfn hln hpz; obtain ⟨kn, cl, be⟩ := s1; refine ⟨by simp, rfl, rfl, by show _ <= kn.length; have : kn.length = _ := hln; omega, by show kn.length <= _; have : kn.length = _ := hln; omega, .inr ⟨Nat.le_refl _, by show _ < kn.length; have : kn.length = _ := hln; omega⟩, fun k hk hn => ?_, ?_, fun k hk => ⟨?_, ?_⟩, fun _ => ⟨?_, ?_⟩, fun k hk => ?_, fun j hj => ?_, fun k hk j hj => ?_, fun k => ?_, fun b hb => ?_, ?_, ?_, ?_, ?_, ?_, ?_⟩
 . exact (hto k).trans (by rw [if_neg hn, if_neg (by omega)])
 . exact (hto i).trans (by rw [if_pos rfl])
 . exact (hpl k).trans (by rw [if_neg (by omega), if_neg (by omega)])
 . exact (hfn k).trans (by rw [if_neg (by omega), if_neg (by omega)])
 . exact (hto _).trans (by rw [if_neg (by omega), if_pos (.inl rfl)])
 . exact (hpl _).trans (by rw [if_neg (by omega), if_pos rfl])
 . refine (hfn k).trans ?_
   split
   . rfl
   split
   . rfl
   exact zcz _ _ hk
 . have : kn.length = _ := hln
   rw [List.mem_singleton] at hj; show _ < kn.length; omega
 . have h := hto k
   have hj' : j ∈ toOf kn k := hj; rw [show toOf kn k = _ from h, if_neg (by omega)] at hj'; split at hj'
   . cases hj'
   rw [zbw _ _ hk] at hj'; cases hj'
 . have h := hto k
   rw [show (toOf ({ knots := kn, cls := s.cls ++ [c], behind := s.behind ++ [s.knots.length] } : zaz).knots k) = _ from h]; split
   . simp
   split <;> simp
 . have : kn.length = _ := hln
   rw [List.mem_singleton] at hb; show _ < kn.length; omega
 . rintro G Z ZP hG m ⟨j, hj, hh⟩
   rw [List.mem_singleton] at hj; subst hj; obtain ⟨h1, h2⟩ := hpz G Z ZP hG; refine .inl ⟨_, by simp, h2.1 ?_⟩; cases m with
   | zero => exact hh
   | succ m =>
    rcases hh with hh | ⟨j, hj, _⟩
    . exact hh
    rw [h1] at hj; cases hj
 . rintro G Z ZP hG p hp hz
   rw [List.mem_singleton] at hp; subst hp; exact ⟨0, _, by simp, (hpz G Z ZP hG).2.2 hz⟩
 . intro G Z ZP hG h
   cases h
 . intro G Z ZP hG x b hb m hh
   refine .inr ?_; cases x with
   | zero => simp at hb; subst hb; exact ⟨by simp, hh⟩
   | succ x => simp at hb
 . intro G Z ZP hG x b q hb h
   exact h.elim
 intro G Z ZP hG x b hb h m hh
 cases x with
 | zero => simp at hb; subst hb; exact ⟨m, hh⟩
 | succ x => simp at hb
end Go.Proofs.YtghpmhllpaheiaaGreatDoor
namespace Go.Proofs.YtghpmhllpaheiaaGreatDoor
theorem net_nil (i : Nat) (s : zaz) (hs : ∀ k, s.knots.length <= k -> za7 s.knots k = false) : NetR 0 0 true [] [] (fun _ _ => False) i i s s [] [] := by
 refine ⟨rfl, by simp, rfl, Nat.le_refl _, Nat.le_refl _, .inl ⟨rfl, rfl, rfl, rfl, rfl⟩, fun _ _ _ => rfl, by simp, fun _ _ => ⟨rfl, rfl⟩, fun h => ⟨zbw _ _ h, zdm _ _ h⟩, hs, fun j hj => (by cases hj), fun k hk j hj => ?_, fun k => by omega, fun b hb => (by cases hb), ?_, ?_, ?_, ?_, ?_, ?_⟩
 . rw [zbw _ _ hk] at hj; cases hj
 . rintro G Z ZP hG m ⟨j, hj, _⟩; cases hj
 . intro G Z ZP hG p hp; cases hp
 . intro G Z ZP hG _ hn; exact absurd rfl hn
 . intro G Z ZP hG x b hb; simp at hb
 . intro G Z ZP hG x b q hb; simp at hb
 intro G Z ZP hG x b hb; simp at hb
theorem or_nil {α : Type} {l : List α} (h : ∀ x, x ∉ l) : l = [] := List.eq_nil_iff_forall_not_mem.2 h
theorem net_comp {nP1 c1 nP2 c2 : Nat} {nu1 nu2 : Bool} {fs1 ls1 fs2 ls2 : List Nat} {fo1 fo2 : Nat -> Nat -> Prop} {i p e : Nat} {s s2 s3 : zaz} {L1 b1 L2 b2 : List Nat} (hi : i < s.knots.length)
 (h1 : NetR nP1 c1 nu1 fs1 ls1 fo1 i p s s2 L1 b1) (h2 : NetR nP2 c2 nu2 fs2 ls2 fo2 p e s2 s3 L2 b2)
 (r1 : ∀ x, x ∈ ls1 -> s.cls.length <= x /\ x < s2.cls.length) (r2 : ∀ x y, fo1 x y -> s.cls.length <= x /\ x < s2.cls.length) (r3 : ∀ x, x ∈ ls2 -> s2.cls.length <= x /\ x < s3.cls.length) (r4 : ∀ x y, fo2 x y -> s2.cls.length <= x /\ x < s3.cls.length) :
 ∃ Lnk bs, NetR (nP1 + nP2) (c1 + c2) (nu1 && nu2) (fs1 ++ if nu1 = true then fs2 else []) ((if nu2 = true then ls1 else []) ++ ls2) (fun x y => fo1 x y \/ fo2 x y \/ (x ∈ ls1 /\ y ∈ fs2)) i e s s3 Lnk bs := by
 have hc1 := h1.cls; have hc2 := h2.cls
 rcases h1.fin with ⟨rfl, rfl, rfl, rfl, rfl⟩ | ⟨hp0, hp1⟩
 ·
  have hn1 : nP1 = 0 := by omega
  subst hn1; have hl1 : ls1 = [] := or_nil fun x hx => by have := r1 x hx; omega
  subst hl1; have hf1 : ∀ x y, ¬ fo1 x y := fun x y h => by have := r2 x y h; omega
  refine ⟨L2, b2, ?_⟩; have e1 : (true && nu2) = nu2 := by simp
  have e2 : ([] ++ if true = true then fs2 else [] : List Nat) = fs2 := by simp
  have e3 : ((if nu2 = true then [] else []) ++ ls2 : List Nat) = ls2 := by simp
  have e4 : (fun x y => fo1 x y \/ fo2 x y \/ (x ∈ ([] : List Nat) /\ y ∈ fs2)) = fo2 := by
   funext x y; simp [hf1 x y]
  rw [e1, e2, e3, e4, Nat.zero_add]; exact ⟨h2.cls, h2.beh, h2.bl, h2.len, Nat.le_trans h2.len2 (by omega), h2.fin, h2.old, h2.at', h2.oldp, h2.e0, h2.nfin, h2.lnk, h2.link, fun k => Nat.le_trans (h2.deg k) (by omega), h2.bsr, h2.fwd, h2.bwd1, h2.bwd2, h2.bf, h2.bb1, h2.bb2⟩
 . have hpi : p ≠ i := by omega
   have hlen := h2.len; have hee : (e = p /\ s3 = s2 /\ nu2 = true /\ fs2 = [] /\ L2 = []) \/ (s2.knots.length <= e /\ e < s3.knots.length) := h2.fin; have he0 : s.knots.length <= e := by rcases hee with h | h <;> omega
   have he1 : e < s3.knots.length := by rcases hee with h | h <;> omega
   have hei : e ≠ i := by omega
   have cp1 : ∀ G Z ZP, zaW G Z ZP s s3 e -> zaW G Z ZP s s2 p := fun G Z ZP hG => by
    refine ⟨fun k hk hk2 hkp => ?_, fun k hk hk2 hkp => ?_⟩
    . have hke : k ≠ e := by rcases hee with h | h <;> omega
      rw [hG.lk k hk (by omega) hke, h2.old k hk2 hkp]
    have hke : k ≠ e := by rcases hee with h | h <;> omega
    rw [hG.z k hk (by omega) hke, (h2.oldp k hk2).1]
   have cp2 : ∀ G Z ZP, zaW G Z ZP s s3 e -> zaW G Z ZP s2 s3 e := fun G Z ZP hG => ⟨fun k hk hk2 hke => hG.lk k (by omega) hk2 hke, fun k hk hk2 hke => hG.z k (by omega) hk2 hke⟩; have gp : ∀ G Z ZP, zaW G Z ZP s s3 e -> e ≠ p -> toOf G p = L2 /\ ¬ Z p := fun G Z ZP hG hn => by
    have a := hG.lk p hp0 (by omega) (Ne.symm hn); have b := hG.z p hp0 (by omega) (Ne.symm hn); rw [h2.at', (h1.e0 hp0).1, List.nil_append] at a; rw [(h2.oldp p hp1).1, (h1.e0 hp0).2] at b; exact ⟨a, fun h => by have := (b.1 h).1; omega⟩
   have hitp : ∀ G Z ZP, zaW G Z ZP s s3 e -> e ≠ p -> ∀ m, Hit G Z m p -> ∃ m', m' <= m /\ ∃ j ∈ L2, Hit G Z m' j := fun G Z ZP hG hn m hh => by
    obtain ⟨a, b⟩ := gp G Z ZP hG hn; cases m with
    | zero => exact absurd hh b
    | succ m =>
     rcases hh with hh | ⟨j, hj, hh⟩
     . exact absurd hh b
     rw [a] at hj; exact ⟨m, by omega, j, hj, hh⟩
   have phit : ∀ G Z ZP, zaW G Z ZP s s3 e -> e ≠ p -> ∀ m, (∃ j ∈ L2, Hit G Z m j) -> Hit G Z (m + 1) p := fun G Z ZP hG hn m ⟨j, hj, hh⟩ => Hit.cons (by rw [(gp G Z ZP hG hn).1]; exact hj) hh; have hne : ∀ {P : Prop}, e = p -> (nu2 = true -> fs2 = [] -> P) -> P := fun he hP => by
    rcases hee with h | h
    . exact hP h.2.2.1 h.2.2.2.1
    omega
   have hbg : ∀ x b, (b1 ++ b2)[x]? = some b -> (x < nP1 /\ b1[x]? = some b) \/ (nP1 <= x /\ b2[x - nP1]? = some b) := fun x b hb => by
    rcases Nat.lt_or_ge x nP1 with hx | hx
    . rw [List.getElem?_append_left (by rw [h1.bl]; exact hx)] at hb
      exact .inl ⟨hx, hb⟩
    rw [List.getElem?_append_right (by rw [h1.bl]; exact hx), h1.bl] at hb
    exact .inr ⟨hx, hb⟩
   refine ⟨L1, b1 ++ b2, by omega, by rw [h2.beh, h1.beh, List.append_assoc], by rw [List.length_append, h1.bl, h2.bl], Nat.le_trans h1.len h2.len, by have := h1.len2; have := h2.len2; omega, .inr ⟨he0, he1⟩, fun k hk hn => ?_, ?_, fun k hk => ?_, fun _ => ?_, fun k hk => ?_, fun j hj => ?_, fun k hk j hj => ?_, fun k => ?_, fun b hb => ?_, ?_, ?_, ?_, ?_, ?_, ?_⟩
   . rw [h2.old k (by omega) (by omega), h1.old k hk hn]
   . rw [h2.old i (by omega) (by omega), h1.at']
   . have a := h2.oldp k (by omega)
     have b := h1.oldp k hk; exact ⟨a.1.trans b.1, a.2.trans b.2⟩
   . rcases hee with h | h
     . obtain ⟨rfl, rfl, _⟩ := h
       exact h1.e0 hp0
     exact h2.e0 h.1
   . rcases Nat.lt_or_ge k s2.knots.length with h | h
     . rw [(h2.oldp k h).2]; exact h1.nfin k hk
     exact h2.nfin k h
   . have := h1.lnk j hj; omega
   . rcases Nat.lt_or_ge k s2.knots.length with h | h
     . by_cases hkp : k = p
       . subst hkp
         rw [h2.at', List.mem_append] at hj
         rcases hj with hj | hj
         . have := h1.link k hk j hj; omega
         exact h2.lnk j hj
       rw [h2.old k h hkp] at hj
       have := h1.link k hk j hj; omega
     exact h2.link k h j hj
   . have := h1.deg k; have := h2.deg k; omega
   . rcases List.mem_append.1 hb with h | h
     . have := h1.bsr b h; omega
     exact h2.bsr b h
   . intro G Z ZP hG m hh
     rcases h1.fwd G Z ZP (cp1 G Z ZP hG) m hh with ⟨x, hx, hz⟩ | ⟨hn, _, hh⟩
     . exact .inl ⟨x, by simp [hx], hz⟩
     by_cases he : e = p
     . exact hne he fun k1 _ => .inr ⟨by simp [hn, k1], hei, by rw [he]; exact hh⟩
     obtain ⟨m', hm, hj⟩ := hitp G Z ZP hG he m hh
     rcases h2.fwd G Z ZP (cp2 G Z ZP hG) m' hj with ⟨x, hx, hz⟩ | ⟨hn2, _, hh⟩
     . exact .inl ⟨x, by simp [hn, hx], hz⟩
     exact .inr ⟨by simp [hn, hn2], hei, hh.mono hm⟩
   . intro G Z ZP hG x hx hz
     rw [List.mem_append] at hx
     rcases hx with hx | hx
     . exact h1.bwd1 G Z ZP (cp1 G Z ZP hG) x hx hz
     split at hx
     . rename_i hn
       by_cases he : e = p
       . exact hne he fun _ k2 => by rw [k2] at hx; cases hx
       obtain ⟨m, hj⟩ := h2.bwd1 G Z ZP (cp2 G Z ZP hG) x hx hz
       exact h1.bwd2 G Z ZP (cp1 G Z ZP hG) hn hpi _ (phit G Z ZP hG he m hj)
     cases hx
   . intro G Z ZP hG hn _ m hh
     rw [Bool.and_eq_true] at hn; by_cases he : e = p
     . exact h1.bwd2 G Z ZP (cp1 G Z ZP hG) hn.1 hpi m (by rw [<- he]; exact hh)
     obtain ⟨m', hj⟩ := h2.bwd2 G Z ZP (cp2 G Z ZP hG) hn.2 he m hh
     exact h1.bwd2 G Z ZP (cp1 G Z ZP hG) hn.1 hpi _ (phit G Z ZP hG he m' hj)
   . intro G Z ZP hG x b hb m hh
     rcases hbg x b hb with ⟨hx, hb⟩ | ⟨hx, hb⟩
     . rcases h1.bf G Z ZP (cp1 G Z ZP hG) x b hb m hh with ⟨q, hq, hz⟩ | ⟨hl, hh⟩
       . exact .inl ⟨q, .inl hq, hz⟩
       by_cases he : e = p
       . exact hne he fun k1 _ => .inr ⟨by simp [k1, hl], by rw [he]; exact hh⟩
       obtain ⟨m', hm, hj⟩ := hitp G Z ZP hG he m hh
       rcases h2.fwd G Z ZP (cp2 G Z ZP hG) m' hj with ⟨q, hq, hz⟩ | ⟨hn2, _, hh⟩
       . exact .inl ⟨q, .inr (.inr ⟨hl, hq⟩), hz⟩
       exact .inr ⟨by simp [hn2, hl], hh.mono hm⟩
     have ex : s2.cls.length + (x - nP1) = s.cls.length + x := by omega
     rcases h2.bf G Z ZP (cp2 G Z ZP hG) _ b hb m hh with ⟨q, hq, hz⟩ | ⟨hl, hh⟩
     . exact .inl ⟨q, .inr (.inl (by rw [<- ex]; exact hq)), hz⟩
     exact .inr ⟨by rw [<- ex]; simp [hl], hh⟩
   . intro G Z ZP hG x b q hb hf hz
     rcases hbg x b hb with ⟨hx, hb⟩ | ⟨hx, hb⟩
     . rcases hf with hf | hf | ⟨hl, hq⟩
       . exact h1.bb1 G Z ZP (cp1 G Z ZP hG) x b q hb hf hz
       . have := r4 _ _ hf; omega
       by_cases he : e = p
       . exact hne he fun _ k2 => by rw [k2] at hq; cases hq
       obtain ⟨m, hj⟩ := h2.bwd1 G Z ZP (cp2 G Z ZP hG) q hq hz
       exact h1.bb2 G Z ZP (cp1 G Z ZP hG) x b hb hl _ (phit G Z ZP hG he m hj)
     have ex : s2.cls.length + (x - nP1) = s.cls.length + x := by omega
     rcases hf with hf | hf | ⟨hl, hq⟩
     . have := r2 _ _ hf; omega
     . exact h2.bb1 G Z ZP (cp2 G Z ZP hG) _ b q hb (by rw [ex]; exact hf) hz
     have := r1 _ hl; omega
   intro G Z ZP hG x b hb hl m hh
   rw [List.mem_append] at hl
   rcases hbg x b hb with ⟨hx, hb⟩ | ⟨hx, hb⟩
   . rcases hl with hl | hl
     . split at hl
       . rename_i hn2
         by_cases he : e = p
         . exact h1.bb2 G Z ZP (cp1 G Z ZP hG) x b hb hl m (by rw [<- he]; exact hh)
         obtain ⟨m', hj⟩ := h2.bwd2 G Z ZP (cp2 G Z ZP hG) hn2 he m hh
         exact h1.bb2 G Z ZP (cp1 G Z ZP hG) x b hb hl _ (phit G Z ZP hG he m' hj)
       cases hl
     have := r3 _ hl; omega
   have ex : s2.cls.length + (x - nP1) = s.cls.length + x := by omega
   rcases hl with hl | hl
   . split at hl
     . have := r1 _ hl; omega
     cases hl
   exact h2.bb2 G Z ZP (cp2 G Z ZP hG) _ b hb (by rw [ex]; exact hl) m hh
end Go.Proofs.YtghpmhllpaheiaaGreatDoor
namespace Go.Proofs.YtghpmhllpaheiaaGreatDoor
theorem zkD {nP1 c1 nP2 c2 : Nat} {nu1 nu2 : Bool} {fs1 ls1 fs2 ls2 : List Nat} {fo1 fo2 : Nat -> Nat -> Prop} {i p q : Nat} {s s1 s2 s3 s4 : zaz} {L1 b1 L2 b2 : List Nat} (hi : i < s.knots.length)
 (h1s : s1 = (((s.push ⟨[], 0, false⟩).push ⟨[], 0, false⟩).push ⟨[], 0, false⟩).link i [s.knots.length, s.knots.length + 1])
 (h4s : s4 = (s3.link p [s.knots.length + 2]).link q [s.knots.length + 2])
 (h1 : NetR nP1 c1 nu1 fs1 ls1 fo1 s.knots.length p s1 s2 L1 b1) (h2 : NetR nP2 c2 nu2 fs2 ls2 fo2 (s.knots.length + 1) q s2 s3 L2 b2)
 (r1 : ∀ x, x ∈ ls1 -> s.cls.length <= x /\ x < s2.cls.length) (r2 : ∀ x y, fo1 x y -> s.cls.length <= x /\ x < s2.cls.length) (r3 : ∀ x, x ∈ ls2 -> s2.cls.length <= x /\ x < s3.cls.length) (r4 : ∀ x y, fo2 x y -> s2.cls.length <= x /\ x < s3.cls.length) :
 ∃ bs, NetR (nP1 + nP2) (c1 + c2 + 4) (nu1 || nu2) (fs1 ++ fs2) (ls1 ++ ls2) (fun x y => fo1 x y \/ fo2 x y) i (s.knots.length + 2) s s4 [s.knots.length, s.knots.length + 1] bs := by
 have hlp : i < (((s.push ⟨[], 0, false⟩).push ⟨[], 0, false⟩).push ⟨[], 0, false⟩).knots.length := by rw [zaK, zaK, zaK]; omega
 have hto1 : ∀ k, toOf s1.knots k = if k = i then toOf s.knots k ++ [s.knots.length, s.knots.length + 1] else toOf s.knots k := fun k => by
  rw [h1s, zdR _ _ _ _ hlp, zd4, zd4, zd4, zaK, zaK]; by_cases e0 : k = i
  . subst e0; rw [if_pos rfl, if_pos rfl, if_neg (by omega), if_neg (by omega), if_neg (by omega)]
  rw [if_neg e0, if_neg e0]
  by_cases e1 : k = s.knots.length + 1 + 1
  . rw [if_pos e1, zbw _ _ (by omega)]
  rw [if_neg e1]
  by_cases e2 : k = s.knots.length + 1
  . rw [if_pos e2, zbw _ _ (by omega)]
  rw [if_neg e2]
  by_cases e3 : k = s.knots.length
  . rw [if_pos e3, zbw _ _ (by omega)]
  rw [if_neg e3]
 have hpl1 : ∀ k, zao s1.knots k = zao s.knots k := fun k => by
  rw [h1s, zfB, zdW, zdW, zdW, zaK, zaK]; by_cases e1 : k = s.knots.length + 1 + 1
  . rw [if_pos e1, zdm _ _ (by omega)]
  rw [if_neg e1]
  by_cases e2 : k = s.knots.length + 1
  . rw [if_pos e2, zdm _ _ (by omega)]
  rw [if_neg e2]
  by_cases e3 : k = s.knots.length
  . rw [if_pos e3, zdm _ _ (by omega)]
  rw [if_neg e3]
 have hfn1 : ∀ k, za7 s1.knots k = za7 s.knots k := fun k => by
  rw [h1s, zec, zdg, zdg, zdg, zaK, zaK]; by_cases e1 : k = s.knots.length + 1 + 1
  . rw [if_pos e1, zcz _ _ (by omega)]
  rw [if_neg e1]
  by_cases e2 : k = s.knots.length + 1
  . rw [if_pos e2, zcz _ _ (by omega)]
  rw [if_neg e2]
  by_cases e3 : k = s.knots.length
  . rw [if_pos e3, zcz _ _ (by omega)]
  rw [if_neg e3]
 have hlen1 : s1.knots.length = s.knots.length + 3 := by rw [h1s, zcj, zaK, zaK, zaK]
 have hcl1 : s1.cls = s.cls /\ s1.behind = s.behind := by rw [h1s]; exact ⟨rfl, rfl⟩
 clear h1s hlp; have hl2 := h1.len; have hl3 := h2.len; have hp : (p = s.knots.length /\ s2 = s1 /\ nu1 = true /\ fs1 = [] /\ L1 = []) \/ (s.knots.length + 3 <= p /\ p < s2.knots.length) := by
  rcases h1.fin with h | h
  . exact .inl h
  exact .inr ⟨by omega, h.2⟩
 have hq : (q = s.knots.length + 1 /\ s3 = s2 /\ nu2 = true /\ fs2 = [] /\ L2 = []) \/ (s2.knots.length <= q /\ q < s3.knots.length) := h2.fin; have hp3 : p < s3.knots.length := by rcases hp with h | h <;> omega
 have hq3 : q < s3.knots.length := by rcases hq with h | h <;> omega
 have hpq : p ≠ q := by rcases hp with h | h <;> rcases hq with h' | h' <;> omega
 have hlen4 : s4.knots.length = s3.knots.length := by rw [h4s, zcj, zcj]
 have hto4 : ∀ k, toOf s4.knots k = if k = p \/ k = q then toOf s3.knots k ++ [s.knots.length + 2] else toOf s3.knots k := fun k => by
  rw [h4s, zdR _ _ _ _ (by rw [zcj]; exact hq3), zdR _ _ _ _ hp3]; by_cases e1 : k = p
  . subst e1; rw [if_neg hpq, if_pos rfl, if_pos (.inl rfl)]
  by_cases e2 : k = q
  . subst e2; rw [if_pos rfl, if_neg e1, if_pos (.inr rfl)]
  rw [if_neg e2, if_neg e1, if_neg (by omega)]
 have hpl4 : ∀ k, zao s4.knots k = zao s3.knots k := fun k => by rw [h4s, zfB, zfB]
 have hfn4 : ∀ k, za7 s4.knots k = za7 s3.knots k := fun k => by rw [h4s, zec, zec]
 have hcl4 : s4.cls = s3.cls /\ s4.behind = s3.behind := by rw [h4s]; exact ⟨rfl, rfl⟩
 clear h4s; have hc1 := h1.cls; have hc2 := h2.cls; rw [hcl1.1] at hc1; have o3 : ∀ k, k < s.knots.length -> toOf s3.knots k = toOf s1.knots k := fun k hk => by rw [h2.old k (by omega) (by omega), h1.old k (by omega) (by omega)]
 have t0 : toOf s3.knots s.knots.length = L1 := by
  rw [h2.old _ (by omega) (by omega), h1.at', hto1, if_neg (by omega), zbw _ _ (Nat.le_refl _), List.nil_append]
 have t1 : toOf s3.knots (s.knots.length + 1) = L2 := by
  rw [h2.at', h1.old _ (by omega) (by omega), hto1, if_neg (by omega), zbw _ _ (by omega), List.nil_append]
 have t2 : toOf s3.knots (s.knots.length + 2) = [] := by
  rw [h2.old _ (by omega) (by omega), h1.old _ (by omega) (by omega), hto1, if_neg (by omega), zbw _ _ (by omega)]
 have pz : ∀ k, k < s.knots.length + 3 -> s.knots.length <= k -> zao s4.knots k = 0 := fun k hk hk2 => by
  rw [hpl4, (h2.oldp k (by omega)).1, (h1.oldp k (by omega)).1, hpl1, zdm _ _ hk2]
 have tp : s.knots.length + 3 <= p -> p < s2.knots.length -> toOf s4.knots p = [s.knots.length + 2] /\ zao s4.knots p = 0 := fun ha hb => by
  have h := h1.e0 (by omega); rw [hto4, if_pos (.inl rfl), hpl4, h2.old p hb (by omega), (h2.oldp p hb).1, h.1, h.2]; exact ⟨rfl, rfl⟩
 have tq : s2.knots.length <= q -> toOf s4.knots q = [s.knots.length + 2] /\ zao s4.knots q = 0 := fun ha => by
  have h := h2.e0 ha; rw [hto4, if_pos (.inr rfl), hpl4, h.1, h.2]; exact ⟨rfl, rfl⟩
 have cp1 : ∀ G Z ZP, zaW G Z ZP s s4 (s.knots.length + 2) -> zaW G Z ZP s1 s2 p := fun G Z ZP hG => by
  refine ⟨fun k hk hk2 hkp => ?_, fun k hk hk2 hkp => ?_⟩
  . have hkq : k ≠ q := by rcases hq with h | h <;> omega
    rw [hG.lk k (by omega) (by omega) (by omega), hto4, if_neg (by omega), h2.old k hk2 (by omega)]
  rw [hG.z k (by omega) (by omega) (by omega), hpl4, (h2.oldp k hk2).1]
 have cp2 : ∀ G Z ZP, zaW G Z ZP s s4 (s.knots.length + 2) -> zaW G Z ZP s2 s3 q := fun G Z ZP hG => by
  refine ⟨fun k hk hk2 hkq => ?_, fun k hk hk2 hkp => ?_⟩
  . have hkp : k ≠ p := by rcases hp with h | h <;> omega
    rw [hG.lk k (by omega) (by omega) (by omega), hto4, if_neg (by omega)]
  rw [hG.z k (by omega) (by omega) (by omega), hpl4]
 have nz : ∀ G Z ZP, zaW G Z ZP s s4 (s.knots.length + 2) -> ∀ k, s.knots.length <= k -> k < s4.knots.length -> k ≠ s.knots.length + 2 -> zao s4.knots k = 0 -> ¬ Z k := fun G Z ZP hG k hk hk2 hn h0 hz => by
  have := (hG.z k hk hk2 hn).1 hz; omega
 have f0 : ∀ G Z ZP, zaW G Z ZP s s4 (s.knots.length + 2) -> ∀ m, Hit G Z m s.knots.length -> (∃ x ∈ fs1, ZP x) \/ (nu1 = true /\ Hit G Z m (s.knots.length + 2)) := fun G Z ZP hG m hh => by
  have hz := nz G Z ZP hG s.knots.length (Nat.le_refl _) (by omega) (by omega) (pz _ (by omega) (Nat.le_refl _)); have hg := hG.lk s.knots.length (Nat.le_refl _) (by omega) (by omega); cases m with
  | zero => exact absurd hh hz
  | succ m =>
   rcases hh with hh | ⟨j, hj, hh⟩
   . exact absurd hh hz
   rw [hg, hto4] at hj
   rcases hp with ⟨e1, e2, e3, e4, e5⟩ | ⟨ha, hb⟩
   . rw [if_pos (.inl e1.symm), t0, e5, List.nil_append, List.mem_singleton] at hj
     subst hj; exact .inr ⟨e3, hh.up⟩
   have hkq : s.knots.length ≠ q := by rcases hq with h | h <;> omega
   rw [if_neg (by omega), t0] at hj
   rcases h1.fwd G Z ZP (cp1 G Z ZP hG) m ⟨j, hj, hh⟩ with h | ⟨hn, _, hh⟩
   . exact .inl h
   have hzp := nz G Z ZP hG p (by omega) (by omega) (by omega) (tp ha hb).2
   have hgp := hG.lk p (by omega) (by omega) (by omega); cases m with
   | zero => exact absurd hh hzp
   | succ m =>
    rcases hh with hh | ⟨j, hj, hh⟩
    . exact absurd hh hzp
    rw [hgp, (tp ha hb).1, List.mem_singleton] at hj
    subst hj; exact .inr ⟨hn, hh.mono (by omega)⟩
 have f1 : ∀ G Z ZP, zaW G Z ZP s s4 (s.knots.length + 2) -> ∀ m, Hit G Z m (s.knots.length + 1) -> (∃ x ∈ fs2, ZP x) \/ (nu2 = true /\ Hit G Z m (s.knots.length + 2)) := fun G Z ZP hG m hh => by
  have hz := nz G Z ZP hG (s.knots.length + 1) (by omega) (by omega) (by omega) (pz _ (by omega) (by omega)); have hg := hG.lk (s.knots.length + 1) (by omega) (by omega) (by omega); cases m with
  | zero => exact absurd hh hz
  | succ m =>
   rcases hh with hh | ⟨j, hj, hh⟩
   . exact absurd hh hz
   rw [hg, hto4] at hj
   rcases hq with ⟨e1, e2, e3, e4, e5⟩ | ⟨ha, hb⟩
   . rw [if_pos (.inr e1.symm), t1, e5, List.nil_append, List.mem_singleton] at hj
     subst hj; exact .inr ⟨e3, hh.up⟩
   have hkp : s.knots.length + 1 ≠ p := by rcases hp with h | h <;> omega
   rw [if_neg (by omega), t1] at hj
   rcases h2.fwd G Z ZP (cp2 G Z ZP hG) m ⟨j, hj, hh⟩ with h | ⟨hn, _, hh⟩
   . exact .inl h
   have hzq := nz G Z ZP hG q (by omega) (by omega) (by omega) (tq ha).2
   have hgq := hG.lk q (by omega) (by omega) (by omega); cases m with
   | zero => exact absurd hh hzq
   | succ m =>
    rcases hh with hh | ⟨j, hj, hh⟩
    . exact absurd hh hzq
    rw [hgq, (tq ha).1, List.mem_singleton] at hj
    subst hj; exact .inr ⟨hn, hh.mono (by omega)⟩
 have gk0 : ∀ G Z ZP, zaW G Z ZP s s4 (s.knots.length + 2) -> ∀ j ∈ L1, j ∈ toOf G s.knots.length := fun G Z ZP hG j hj => by
  rw [hG.lk s.knots.length (Nat.le_refl _) (by omega) (by omega), hto4, t0]; split
  . simp [hj]
  exact hj
 have gk1 : ∀ G Z ZP, zaW G Z ZP s s4 (s.knots.length + 2) -> ∀ j ∈ L2, j ∈ toOf G (s.knots.length + 1) := fun G Z ZP hG j hj => by
  rw [hG.lk (s.knots.length + 1) (by omega) (by omega) (by omega), hto4, t1]; split
  . simp [hj]
  exact hj
 have gp : ∀ G Z ZP, zaW G Z ZP s s4 (s.knots.length + 2) -> s.knots.length + 2 ∈ toOf G p := fun G Z ZP hG => by
  have hps : s.knots.length <= p := by rcases hp with h | h <;> omega
  have hpe : p ≠ s.knots.length + 2 := by rcases hp with h | h <;> omega
  rw [hG.lk p hps (by omega) hpe, hto4, if_pos (.inl rfl)]; simp
 have gq : ∀ G Z ZP, zaW G Z ZP s s4 (s.knots.length + 2) -> s.knots.length + 2 ∈ toOf G q := fun G Z ZP hG => by
  have hqs : s.knots.length <= q := by rcases hq with h | h <;> omega
  have hqe : q ≠ s.knots.length + 2 := by rcases hq with h | h <;> omega
  rw [hG.lk q hqs (by omega) hqe, hto4, if_pos (.inr rfl)]; simp
 have g0 : ∀ G Z ZP, zaW G Z ZP s s4 (s.knots.length + 2) -> nu1 = true -> ∀ m, Hit G Z m (s.knots.length + 2) -> ∃ m', Hit G Z m' s.knots.length := fun G Z ZP hG hn m hh => by
  have hpp := Hit.cons (gp G Z ZP hG) hh
  rcases hp with ⟨e1, _⟩ | ⟨ha, hb⟩
  . exact ⟨m + 1, by rw [<- e1]; exact hpp⟩
  obtain ⟨m', j, hj, hh⟩ := h1.bwd2 G Z ZP (cp1 G Z ZP hG) hn (by omega) _ hpp
  exact ⟨m' + 1, Hit.cons (gk0 G Z ZP hG j hj) hh⟩
 have g1 : ∀ G Z ZP, zaW G Z ZP s s4 (s.knots.length + 2) -> nu2 = true -> ∀ m, Hit G Z m (s.knots.length + 2) -> ∃ m', Hit G Z m' (s.knots.length + 1) := fun G Z ZP hG hn m hh => by
  have hqq := Hit.cons (gq G Z ZP hG) hh
  rcases hq with ⟨e1, _⟩ | ⟨ha, hb⟩
  . exact ⟨m + 1, by rw [<- e1]; exact hqq⟩
  obtain ⟨m', j, hj, hh⟩ := h2.bwd2 G Z ZP (cp2 G Z ZP hG) hn (by omega) _ hqq
  exact ⟨m' + 1, Hit.cons (gk1 G Z ZP hG j hj) hh⟩
 have hbg : ∀ x b, (b1 ++ b2)[x]? = some b -> (x < nP1 /\ b1[x]? = some b) \/ (nP1 <= x /\ b2[x - nP1]? = some b) := fun x b hb => by
  rcases Nat.lt_or_ge x nP1 with hx | hx
  . rw [List.getElem?_append_left (by rw [h1.bl]; exact hx)] at hb
    exact .inl ⟨hx, hb⟩
  rw [List.getElem?_append_right (by rw [h1.bl]; exact hx), h1.bl] at hb
  exact .inr ⟨hx, hb⟩
 have hpn : 0 < nP1 -> s.knots.length + 3 <= p /\ p < s2.knots.length := fun h => by
  rcases hp with ⟨_, e, _⟩ | h'
  . rw [e, hcl1.1] at hc1; omega
  exact h'
 have hqn : 0 < nP2 -> s2.knots.length <= q := fun h => by
  rcases hq with ⟨_, e, _⟩ | h'
  . rw [e] at hc2; omega
  exact h'.1
 have hpe : ∀ G Z ZP, zaW G Z ZP s s4 (s.knots.length + 2) -> s.knots.length + 3 <= p -> p < s2.knots.length -> ∀ m, Hit G Z m p -> Hit G Z m (s.knots.length + 2) := fun G Z ZP hG ha hb m hh => by
  have hzp := nz G Z ZP hG p (by omega) (by omega) (by omega) (tp ha hb).2; have hgp := hG.lk p (by omega) (by omega) (by omega); cases m with
  | zero => exact absurd hh hzp
  | succ m =>
   rcases hh with hh | ⟨j, hj, hh⟩
   . exact absurd hh hzp
   rw [hgp, (tp ha hb).1, List.mem_singleton] at hj
   subst hj; exact hh.up
 have hqe : ∀ G Z ZP, zaW G Z ZP s s4 (s.knots.length + 2) -> s2.knots.length <= q -> ∀ m, Hit G Z m q -> Hit G Z m (s.knots.length + 2) := fun G Z ZP hG ha m hh => by
  have hzq := nz G Z ZP hG q (by omega) (by omega) (by omega) (tq ha).2; have hgq := hG.lk q (by omega) (by omega) (by omega); cases m with
  | zero => exact absurd hh hzq
  | succ m =>
   rcases hh with hh | ⟨j, hj, hh⟩
   . exact absurd hh hzq
   rw [hgq, (tq ha).1, List.mem_singleton] at hj
   subst hj; exact hh.up
 have hc1' : s1.cls.length = s.cls.length := by rw [hcl1.1]
 refine ⟨b1 ++ b2, by rw [hcl4.1]; omega, by rw [hcl4.2, h2.beh, h1.beh, hcl1.2, List.append_assoc], by rw [List.length_append, h1.bl, h2.bl], by omega, by have := h1.len2; have := h2.len2; omega, .inr ⟨by omega, by omega⟩, fun k hk hn => ?_, ?_, fun k hk => ⟨?_, ?_⟩, fun _ => ⟨?_, pz _ (by omega) (by omega)⟩, fun k hk => ?_, fun j hj => ?_, fun k hk j hj => ?_, fun k => ?_, fun b hb => ?_, ?_, ?_, ?_, ?_, ?_, ?_⟩
 . have a1 : k ≠ p := by rcases hp with h | h <;> omega
   have a2 : k ≠ q := by rcases hq with h | h <;> omega
   rw [hto4, if_neg (by omega), o3 k hk, hto1, if_neg hn]
 . have a1 : i ≠ p := by rcases hp with h | h <;> omega
   have a2 : i ≠ q := by rcases hq with h | h <;> omega
   rw [hto4, if_neg (by omega), o3 i hi, hto1, if_pos rfl]
 . rw [hpl4, (h2.oldp k (by omega)).1, (h1.oldp k (by omega)).1, hpl1]
 . rw [hfn4, (h2.oldp k (by omega)).2, (h1.oldp k (by omega)).2, hfn1]
 . have a1 : s.knots.length + 2 ≠ p := by rcases hp with h | h <;> omega
   have a2 : s.knots.length + 2 ≠ q := by rcases hq with h | h <;> omega
   rw [hto4, if_neg (by omega), t2]
 . rw [hfn4]
   rcases Nat.lt_or_ge k s2.knots.length with h | h
   . rw [(h2.oldp k h).2]
     rcases Nat.lt_or_ge k s1.knots.length with h' | h'
     . rw [(h1.oldp k h').2, hfn1, zcz _ _ hk]
     exact h1.nfin k h'
   exact h2.nfin k h
 . simp at hj; omega
 . have key : ∀ j ∈ toOf s3.knots k, j < s3.knots.length := fun j hj => by
    rcases Nat.lt_or_ge k s2.knots.length with h | h
    . by_cases e1 : k = s.knots.length + 1
      . subst e1; rw [t1] at hj; exact h2.lnk j hj
      rw [h2.old k h e1] at hj
      rcases Nat.lt_or_ge k s1.knots.length with h' | h'
      . by_cases e0 : k = s.knots.length
        . subst e0
          rw [h1.at', hto1, if_neg (by omega), zbw _ _ (Nat.le_refl _), List.nil_append] at hj; have := h1.lnk j hj; omega
        rw [h1.old k h' e0, hto1, if_neg (by omega), zbw _ _ hk] at hj
        cases hj
      have := h1.link k h' j hj; omega
    exact h2.link k h j hj
   rw [hto4] at hj; split at hj
   . rw [List.mem_append, List.mem_singleton] at hj
     rcases hj with hj | hj
     . have := key j hj; omega
     omega
   have := key j hj; omega
 . have a1 := h1.deg k
   have a2 := h2.deg k; have a3 : (toOf s1.knots k).length <= (toOf s.knots k).length + 2 := by rw [hto1]; split <;> simp
   have a4 : (toOf s4.knots k).length <= (toOf s3.knots k).length + 1 := by rw [hto4]; split <;> simp
   omega
 . rcases List.mem_append.1 hb with h | h
   . have := h1.bsr b h; omega
   have := h2.bsr b h; omega
 . rintro G Z ZP hG m ⟨j, hj, hh⟩
   simp only [List.mem_cons, List.not_mem_nil, or_false] at hj
   rcases hj with rfl | rfl
   . rcases f0 G Z ZP hG m hh with ⟨x, hx, hz⟩ | ⟨hn, hh⟩
     . exact .inl ⟨x, by simp [hx], hz⟩
     exact .inr ⟨by simp [hn], by omega, hh⟩
   rcases f1 G Z ZP hG m hh with ⟨x, hx, hz⟩ | ⟨hn, hh⟩
   . exact .inl ⟨x, by simp [hx], hz⟩
   exact .inr ⟨by simp [hn], by omega, hh⟩
 . intro G Z ZP hG x hx hz
   rw [List.mem_append] at hx
   rcases hx with hx | hx
   . obtain ⟨m, j, hj, hh⟩ := h1.bwd1 G Z ZP (cp1 G Z ZP hG) x hx hz
     exact ⟨m + 1, _, by simp, Hit.cons (gk0 G Z ZP hG j hj) hh⟩
   obtain ⟨m, j, hj, hh⟩ := h2.bwd1 G Z ZP (cp2 G Z ZP hG) x hx hz
   exact ⟨m + 1, s.knots.length + 1, by simp, Hit.cons (gk1 G Z ZP hG j hj) hh⟩
 . intro G Z ZP hG hn _ m hh
   rw [Bool.or_eq_true] at hn
   rcases hn with hn | hn
   . obtain ⟨m', h⟩ := g0 G Z ZP hG hn m hh
     exact ⟨m', _, by simp, h⟩
   obtain ⟨m', h⟩ := g1 G Z ZP hG hn m hh
   exact ⟨m', s.knots.length + 1, by simp, h⟩
 . intro G Z ZP hG x b hb m hh
   rcases hbg x b hb with ⟨hx, hb⟩ | ⟨hx, hb⟩
   . rcases h1.bf G Z ZP (cp1 G Z ZP hG) x b hb m hh with ⟨y, hy, hz⟩ | ⟨hl, hh⟩
     . exact .inl ⟨y, .inl (by rw [hc1'] at hy; exact hy), hz⟩
     obtain ⟨ha, hb'⟩ := hpn (by omega)
     exact .inr ⟨by rw [hc1'] at hl; simp [hl], hpe G Z ZP hG ha hb' m hh⟩
   have ex : s2.cls.length + (x - nP1) = s.cls.length + x := by omega
   have hxl : x - nP1 < nP2 := by rw [<- h2.bl]; exact (List.getElem?_eq_some_iff.1 hb).1
   rcases h2.bf G Z ZP (cp2 G Z ZP hG) _ b hb m hh with ⟨y, hy, hz⟩ | ⟨hl, hh⟩
   . exact .inl ⟨y, .inr (by rw [<- ex]; exact hy), hz⟩
   exact .inr ⟨by rw [<- ex]; simp [hl], hqe G Z ZP hG (hqn (by omega)) m hh⟩
 . intro G Z ZP hG x b y hb hf hz
   rcases hbg x b hb with ⟨hx, hb⟩ | ⟨hx, hb⟩
   . rcases hf with hf | hf
     . exact h1.bb1 G Z ZP (cp1 G Z ZP hG) x b y hb (by rw [hc1']; exact hf) hz
     have := r4 _ _ hf; omega
   have ex : s2.cls.length + (x - nP1) = s.cls.length + x := by omega
   rcases hf with hf | hf
   . have := r2 _ _ hf; omega
   exact h2.bb1 G Z ZP (cp2 G Z ZP hG) _ b y hb (by rw [ex]; exact hf) hz
 intro G Z ZP hG x b hb hl m hh
 rw [List.mem_append] at hl
 rcases hbg x b hb with ⟨hx, hb⟩ | ⟨hx, hb⟩
 . rcases hl with hl | hl
   . exact h1.bb2 G Z ZP (cp1 G Z ZP hG) x b hb (by rw [hc1']; exact hl) _ (Hit.cons (gp G Z ZP hG) hh)
   have := r3 _ hl; omega
 have ex : s2.cls.length + (x - nP1) = s.cls.length + x := by omega
 rcases hl with hl | hl
 . have := r1 _ hl; omega
 exact h2.bb2 G Z ZP (cp2 G Z ZP hG) _ b hb (by rw [ex]; exact hl) _ (Hit.cons (gq G Z ZP hG) hh)
end Go.Proofs.YtghpmhllpaheiaaGreatDoor
namespace Go.Proofs.YtghpmhllpaheiaaGreatDoor
theorem net_rep {nP1 c1 : Nat} {nu1 once : Bool} {m : Int} {fs1 ls1 : List Nat} {fo1 : Nat -> Nat -> Prop} {i p : Nat} {s s1 s2 s3 s4 s5 : zaz} {L1 b1 : List Nat} (hi : i < s.knots.length)
 (h1s : s1 = ((s.push ⟨[], 0, false⟩).push ⟨[], 0, false⟩).link i [s.knots.length])
 (h3s : s3 = s2.link p [s.knots.length + 1]) (h4s : s4 = if once = true then s3 else s3.link p [s.knots.length]) (h5s : s5 = if m = 0 then s4.link s.knots.length [s.knots.length + 1] else s4)
 (h1 : NetR nP1 c1 nu1 fs1 ls1 fo1 s.knots.length p s1 s2 L1 b1)
 (r1 : ∀ x, x ∈ ls1 -> s.cls.length <= x /\ x < s2.cls.length) :
 ∃ bs, NetR nP1 (c1 + 5) (nu1 || decide (m = 0)) fs1 ls1 (fun x y => fo1 x y \/ (once = false /\ x ∈ ls1 /\ y ∈ fs1)) i (s.knots.length + 1) s s5 [s.knots.length] bs := by
 have hlp : i < ((s.push ⟨[], 0, false⟩).push ⟨[], 0, false⟩).knots.length := by rw [zaK, zaK]; omega
 have hto1 : ∀ k, toOf s1.knots k = if k = i then toOf s.knots k ++ [s.knots.length] else toOf s.knots k := fun k => by
  rw [h1s, zdR _ _ _ _ hlp, zd4, zd4, zaK]; by_cases e0 : k = i
  . subst e0; rw [if_pos rfl, if_pos rfl, if_neg (by omega), if_neg (by omega)]
  rw [if_neg e0, if_neg e0]
  by_cases e2 : k = s.knots.length + 1
  . rw [if_pos e2, zbw _ _ (by omega)]
  rw [if_neg e2]
  by_cases e3 : k = s.knots.length
  . rw [if_pos e3, zbw _ _ (by omega)]
  rw [if_neg e3]
 have hpl1 : ∀ k, zao s1.knots k = zao s.knots k := fun k => by
  rw [h1s, zfB, zdW, zdW, zaK]; by_cases e2 : k = s.knots.length + 1
  . rw [if_pos e2, zdm _ _ (by omega)]
  rw [if_neg e2]
  by_cases e3 : k = s.knots.length
  . rw [if_pos e3, zdm _ _ (by omega)]
  rw [if_neg e3]
 have hfn1 : ∀ k, za7 s1.knots k = za7 s.knots k := fun k => by
  rw [h1s, zec, zdg, zdg, zaK]; by_cases e2 : k = s.knots.length + 1
  . rw [if_pos e2, zcz _ _ (by omega)]
  rw [if_neg e2]
  by_cases e3 : k = s.knots.length
  . rw [if_pos e3, zcz _ _ (by omega)]
  rw [if_neg e3]
 have hlen1 : s1.knots.length = s.knots.length + 2 := by rw [h1s, zcj, zaK, zaK]
 have hcl1 : s1.cls = s.cls /\ s1.behind = s.behind := by rw [h1s]; exact ⟨rfl, rfl⟩
 clear h1s hlp; have hl2 := h1.len; have hp : (p = s.knots.length /\ s2 = s1 /\ nu1 = true /\ fs1 = [] /\ L1 = []) \/ (s.knots.length + 2 <= p /\ p < s2.knots.length) := by
  rcases h1.fin with h | h
  . exact .inl h
  exact .inr ⟨by omega, h.2⟩
 have hp2 : p < s2.knots.length := by rcases hp with h | h <;> omega
 have hlen5 : s5.knots.length = s2.knots.length := by
  rw [h5s, h4s, h3s]; split <;> split <;> simp only [zcj]
 have hto5 : ∀ k, toOf s5.knots k = toOf s2.knots k ++ ((if k = p then (s.knots.length + 1) :: (if once = true then [] else [s.knots.length]) else []) ++ (if k = s.knots.length /\ m = 0 then [s.knots.length + 1] else [])) := fun k => by
  have h3 : toOf s3.knots k = toOf s2.knots k ++ (if k = p then [s.knots.length + 1] else []) := by
   rw [h3s, zdR _ _ _ _ hp2]; split <;> simp
  have hl3 : s3.knots.length = s2.knots.length := by rw [h3s, zcj]
  have h4 : toOf s4.knots k = toOf s2.knots k ++ (if k = p then (s.knots.length + 1) :: (if once = true then [] else [s.knots.length]) else []) := by
   rw [h4s]; cases once with
   | true => rw [if_pos rfl, h3]; simp
   | false =>
    rw [if_neg (by decide), zdR _ _ _ _ (by omega), h3]; split <;> simp
  have hl4 : s4.knots.length = s2.knots.length := by rw [h4s]; split <;> simp only [zcj, hl3]
  rw [h5s]; by_cases hm : m = 0
  . rw [if_pos hm, zdR _ _ _ _ (by omega), h4]
    by_cases hk : k = s.knots.length
    . rw [if_pos hk, if_pos (show k = s.knots.length /\ m = 0 from ⟨hk, hm⟩), List.append_assoc]
    rw [if_neg hk, if_neg (fun h : k = s.knots.length /\ m = 0 => hk h.1), List.append_nil]
  rw [if_neg hm, h4, if_neg (fun h : k = s.knots.length /\ m = 0 => hm h.2), List.append_nil]
 have hpl5 : ∀ k, zao s5.knots k = zao s2.knots k := fun k => by
  rw [h5s, h4s, h3s]; split <;> split <;> simp only [zfB]
 have hfn5 : ∀ k, za7 s5.knots k = za7 s2.knots k := fun k => by
  rw [h5s, h4s, h3s]; split <;> split <;> simp only [zec]
 have hcl5 : s5.cls = s2.cls /\ s5.behind = s2.behind := by
  rw [h5s, h4s, h3s]; split <;> split <;> exact ⟨rfl, rfl⟩
 clear h5s h4s h3s s3 s4; have hc1 := h1.cls; rw [hcl1.1] at hc1; have mem5 : ∀ k j, j ∈ toOf s5.knots k ↔ j ∈ toOf s2.knots k \/ (k = p /\ (j = s.knots.length + 1 \/ (once = false /\ j = s.knots.length))) \/ (k = s.knots.length /\ m = 0 /\ j = s.knots.length + 1) := fun k j => by
  rw [hto5, List.mem_append, List.mem_append]; refine or_congr Iff.rfl (or_congr ?_ ?_)
  . split
    . rename_i h
      cases once <;> simp [h]
    rename_i h
    simp [h]
  split
  . rename_i h
    simp [h.1, h.2]
  rename_i h
  constructor
  . intro h'; cases h'
  rintro ⟨h1, h2, _⟩; exact absurd ⟨h1, h2⟩ h
 have t0 : toOf s2.knots s.knots.length = L1 := by
  rw [h1.at', hto1, if_neg (by omega), zbw _ _ (Nat.le_refl _), List.nil_append]
 have t1 : toOf s2.knots (s.knots.length + 1) = [] := by
  rw [h1.old _ (by omega) (by omega), hto1, if_neg (by omega), zbw _ _ (by omega)]
 have pz : ∀ k, k < s.knots.length + 2 -> s.knots.length <= k -> zao s5.knots k = 0 := fun k hk hk2 => by
  rw [hpl5, (h1.oldp k (by omega)).1, hpl1, zdm _ _ hk2]
 have tp : s.knots.length + 2 <= p -> toOf s2.knots p = [] /\ zao s5.knots p = 0 := fun ha => by
  have h := h1.e0 (by omega); rw [hpl5]; exact h
 have cp1 : ∀ G Z ZP, zaW G Z ZP s s5 (s.knots.length + 1) -> zaW G Z ZP s1 s2 p := fun G Z ZP hG => by
  refine ⟨fun k hk hk2 hkp => ?_, fun k hk hk2 hkp => ?_⟩
  . rw [hG.lk k (by omega) (by omega) (by omega), hto5, if_neg hkp, if_neg (by omega)]
    simp
  rw [hG.z k (by omega) (by omega) (by omega), hpl5]
 have nz : ∀ G Z ZP, zaW G Z ZP s s5 (s.knots.length + 1) -> ∀ k, s.knots.length <= k -> k < s5.knots.length -> k ≠ s.knots.length + 1 -> zao s5.knots k = 0 -> ¬ Z k := fun G Z ZP hG k hk hk2 hn h0 hz => by
  have := (hG.z k hk hk2 hn).1 hz; omega
 have f0 : ∀ G Z ZP, zaW G Z ZP s s5 (s.knots.length + 1) -> ∀ n, Hit G Z n s.knots.length -> (∃ x ∈ fs1, ZP x) \/ ((nu1 || decide (m = 0)) = true /\ Hit G Z n (s.knots.length + 1)) := fun G Z ZP hG n => by
  induction n using Nat.strongRecOn with
  | _ n ih =>
   intro hh; have hz := nz G Z ZP hG s.knots.length (Nat.le_refl _) (by omega) (by omega) (pz _ (by omega) (Nat.le_refl _)); have hg := hG.lk s.knots.length (Nat.le_refl _) (by omega) (by omega); cases n with
   | zero => exact absurd hh hz
   | succ n =>
    rcases hh with hh | ⟨j, hj, hh⟩
    . exact absurd hh hz
    rw [hg, mem5, t0] at hj
    rcases hj with hj | ⟨e, hj⟩ | ⟨_, hm, rfl⟩
    . rcases h1.fwd G Z ZP (cp1 G Z ZP hG) n ⟨j, hj, hh⟩ with h | ⟨hn, hpn, hh⟩
      . exact .inl h
      have hpp : s.knots.length + 2 <= p := by rcases hp with h | h <;> omega
      have hzp := nz G Z ZP hG p (by omega) (by omega) (by omega) (tp hpp).2; have hgp := hG.lk p (by omega) (by omega) (by omega); cases n with
      | zero => exact absurd hh hzp
      | succ n =>
       rcases hh with hh | ⟨j, hj, hh⟩
       . exact absurd hh hzp
       rw [hgp, mem5, (tp hpp).1] at hj
       rcases hj with hj | ⟨_, rfl | ⟨_, rfl⟩⟩ | ⟨hj, _⟩
       . cases hj
       . exact .inr ⟨by simp [hn], hh.mono (by omega)⟩
       . rcases ih n (by omega) hh with h | ⟨h1, h2⟩
         . exact .inl h
         exact .inr ⟨h1, h2.mono (by omega)⟩
       omega
    . have hn : nu1 = true := by
       rcases hp with h | h
       . exact h.2.2.1
       omega
      rcases hj with rfl | ⟨_, rfl⟩
      . exact .inr ⟨by simp [hn], hh.up⟩
      rcases ih n (by omega) hh with h | ⟨h1, h2⟩
      . exact .inl h
      exact .inr ⟨h1, h2.up⟩
    exact .inr ⟨by simp [hm], hh.up⟩
 have gk0 : ∀ G Z ZP, zaW G Z ZP s s5 (s.knots.length + 1) -> ∀ j ∈ L1, j ∈ toOf G s.knots.length := fun G Z ZP hG j hj => by
  rw [hG.lk s.knots.length (Nat.le_refl _) (by omega) (by omega), mem5, t0]; exact .inl hj
 have gp : ∀ G Z ZP, zaW G Z ZP s s5 (s.knots.length + 1) -> s.knots.length + 1 ∈ toOf G p := fun G Z ZP hG => by
  have hps : s.knots.length <= p := by rcases hp with h | h <;> omega
  have hpe : p ≠ s.knots.length + 1 := by rcases hp with h | h <;> omega
  rw [hG.lk p hps (by omega) hpe, mem5]; exact .inr (.inl ⟨rfl, .inl rfl⟩)
 have gpn : ∀ G Z ZP, zaW G Z ZP s s5 (s.knots.length + 1) -> once = false -> s.knots.length ∈ toOf G p := fun G Z ZP hG ho => by
  have hps : s.knots.length <= p := by rcases hp with h | h <;> omega
  have hpe : p ≠ s.knots.length + 1 := by rcases hp with h | h <;> omega
  rw [hG.lk p hps (by omega) hpe, mem5]; exact .inr (.inl ⟨rfl, .inr ⟨ho, rfl⟩⟩)
 have hpn : 0 < nP1 -> s.knots.length + 2 <= p := fun h => by
  rcases hp with ⟨_, e, _⟩ | h'
  . rw [e, hcl1.1] at hc1; omega
  exact h'.1
 have hbn : ∀ x b, b1[x]? = some b -> s.knots.length + 2 <= p := fun x b hb => by
  have := (List.getElem?_eq_some_iff.1 hb).1; rw [h1.bl] at this; exact hpn (by omega)
 have hc1' : s1.cls.length = s.cls.length := by rw [hcl1.1]
 refine ⟨b1, by rw [hcl5.1]; omega, by rw [hcl5.2, h1.beh, hcl1.2], h1.bl, by omega, by have := h1.len2; omega, .inr ⟨by omega, by omega⟩, fun k hk hn => ?_, ?_, fun k hk => ⟨?_, ?_⟩, fun _ => ⟨?_, pz _ (by omega) (by omega)⟩, fun k hk => ?_, fun j hj => ?_, fun k hk j hj => ?_, fun k => ?_, fun b hb => ?_, ?_, ?_, ?_, ?_, ?_, ?_⟩
 . have a1 : k ≠ p := by rcases hp with h | h <;> omega
   rw [hto5, if_neg a1, if_neg (by omega), h1.old k (by omega) (by omega), hto1, if_neg hn]; simp
 . have a1 : i ≠ p := by rcases hp with h | h <;> omega
   rw [hto5, if_neg a1, if_neg (by omega), h1.old i (by omega) (by omega), hto1, if_pos rfl]; simp
 . rw [hpl5, (h1.oldp k (by omega)).1, hpl1]
 . rw [hfn5, (h1.oldp k (by omega)).2, hfn1]
 . have a1 : s.knots.length + 1 ≠ p := by rcases hp with h | h <;> omega
   rw [hto5, if_neg a1, if_neg (by omega), t1]; rfl
 . rw [hfn5]
   rcases Nat.lt_or_ge k s1.knots.length with h' | h'
   . rw [(h1.oldp k h').2, hfn1, zcz _ _ hk]
   exact h1.nfin k h'
 . simp at hj; omega
 . rw [mem5] at hj
   rcases hj with hj | ⟨_, hj⟩ | ⟨_, _, hj⟩
   . rcases Nat.lt_or_ge k s1.knots.length with h' | h'
     . by_cases e0 : k = s.knots.length
       . subst e0
         rw [t0] at hj; have := h1.lnk j hj; omega
       rw [h1.old k h' e0, hto1, if_neg (by omega), zbw _ _ hk] at hj
       cases hj
     have := h1.link k h' j hj; omega
   . omega
   omega
 . have a1 := h1.deg k
   have a3 : (toOf s1.knots k).length <= (toOf s.knots k).length + 1 := by rw [hto1]; split <;> simp
   have a4 : (toOf s5.knots k).length <= (toOf s2.knots k).length + 3 := by
    rw [hto5, List.length_append, List.length_append]; have q1 : (if k = p then (s.knots.length + 1) :: (if once = true then [] else [s.knots.length]) else []).length <= 2 := by
     split
     . cases once <;> simp
     simp
    have q2 : (if k = s.knots.length /\ m = 0 then [s.knots.length + 1] else []).length <= 1 := by split <;> simp
    omega
   omega
 . have := h1.bsr b hb; omega
 . rintro G Z ZP hG n ⟨j, hj, hh⟩
   rw [List.mem_singleton] at hj; subst hj
   rcases f0 G Z ZP hG n hh with h | ⟨hn, hh⟩
   . exact .inl h
   exact .inr ⟨hn, by omega, hh⟩
 . intro G Z ZP hG x hx hz
   obtain ⟨n, j, hj, hh⟩ := h1.bwd1 G Z ZP (cp1 G Z ZP hG) x hx hz; exact ⟨n + 1, s.knots.length, List.mem_singleton.2 rfl, Hit.cons (gk0 G Z ZP hG j hj) hh⟩
 . intro G Z ZP hG hn _ n hh
   rw [Bool.or_eq_true, decide_eq_true_eq] at hn
   rcases hn with hn | hn
   . have hpp := Hit.cons (gp G Z ZP hG) hh
     rcases hp with ⟨e1, _⟩ | ⟨ha, hb⟩
     . exact ⟨n + 1, s.knots.length, List.mem_singleton.2 rfl, e1 ▸ hpp⟩
     obtain ⟨n', j, hj, hh⟩ := h1.bwd2 G Z ZP (cp1 G Z ZP hG) hn (by omega) _ hpp
     exact ⟨n' + 1, s.knots.length, List.mem_singleton.2 rfl, Hit.cons (gk0 G Z ZP hG j hj) hh⟩
   refine ⟨n + 1, s.knots.length, List.mem_singleton.2 rfl, Hit.cons (j := s.knots.length + 1) ?_ hh⟩
   rw [hG.lk s.knots.length (Nat.le_refl _) (by omega) (by omega), mem5]; exact .inr (.inr ⟨rfl, hn, rfl⟩)
 . intro G Z ZP hG x b hb n hh
   have hpp := hbn x b hb
   rcases h1.bf G Z ZP (cp1 G Z ZP hG) x b hb n hh with ⟨y, hy, hz⟩ | ⟨hl, hh⟩
   . exact .inl ⟨y, .inl (by rw [hc1'] at hy; exact hy), hz⟩
   rw [hc1'] at hl
   have hzp := nz G Z ZP hG p (by omega) (by omega) (by omega) (tp hpp).2; have hgp := hG.lk p (by omega) (by omega) (by omega); cases n with
   | zero => exact absurd hh hzp
   | succ n =>
    rcases hh with hh | ⟨j, hj, hh⟩
    . exact absurd hh hzp
    rw [hgp, mem5, (tp hpp).1] at hj
    rcases hj with hj | ⟨_, rfl | ⟨ho, rfl⟩⟩ | ⟨hj, _⟩
    . cases hj
    . exact .inr ⟨hl, hh.up⟩
    . rcases f0 G Z ZP hG n hh with ⟨y, hy, hz⟩ | ⟨_, hh⟩
      . exact .inl ⟨y, .inr ⟨ho, hl, hy⟩, hz⟩
      exact .inr ⟨hl, hh.up⟩
    omega
 . intro G Z ZP hG x b y hb hf hz
   rcases hf with hf | ⟨ho, hl, hy⟩
   . exact h1.bb1 G Z ZP (cp1 G Z ZP hG) x b y hb (by rw [hc1']; exact hf) hz
   obtain ⟨n, j, hj, hh⟩ := h1.bwd1 G Z ZP (cp1 G Z ZP hG) y hy hz
   exact h1.bb2 G Z ZP (cp1 G Z ZP hG) x b hb (by rw [hc1']; exact hl) _ (Hit.cons (gpn G Z ZP hG ho) (Hit.cons (gk0 G Z ZP hG j hj) hh))
 intro G Z ZP hG x b hb hl n hh
 exact h1.bb2 G Z ZP (cp1 G Z ZP hG) x b hb (by rw [hc1']; exact hl) _ (Hit.cons (gp G Z ZP hG) hh)
mutual
theorem ze8 : ∀ (t : Tree) (i : Nat) (s : zaz) (e : Nat) (s' : zaz), i < s.knots.length -> 1 <= s.cls.length -> layT t i s = some (e, s') ->
 ∃ Lnk bs, NetR (nPl t) (cstT t) (nulT t) (fstT t s.cls.length) (lstT t s.cls.length) (folT t s.cls.length) i e s s' Lnk bs
 | .cls c, i, s, e, s', hi, hc, h => by
  rw [layT] at h; split at h
  . cases h
  . cases h
    have hf : folT (.cls c) s.cls.length = fun _ _ => False := by funext p q; rw [folT]
    rw [nPl, cstT, nulT, fstT, lstT, hf]; exact ⟨_, _, net_cls c hi hc⟩
 | .row l, i, s, e, s', hi, hc, h => by
  rw [layT] at h; have hf : folT (.row l) s.cls.length = folR l s.cls.length := by funext p q; rw [folT]
  rw [nPl, cstT, nulT, fstT, lstT, hf]; exact net_row l i s e s' hi hc h
 | .either a b, i, s, e, s', hi, hc, h => by
  rw [layT] at h; generalize h1s : (((s.push ⟨[], 0, false⟩).push ⟨[], 0, false⟩).push ⟨[], 0, false⟩).link i [s.knots.length, s.knots.length + 1] = s1 at h; have hl1 : s1.knots.length = s.knots.length + 3 := by rw [<- h1s, zcj, zaK, zaK, zaK]
  have hc1 : s1.cls = s.cls := by rw [<- h1s]; rfl
  split at h
  . cases h
  . rename_i p s2 e1
    split at h
    . cases h
    . rename_i q s3 e2
      obtain ⟨L1, b1, n1⟩ := ze8 a s.knots.length s1 p s2 (by omega) (by rw [hc1]; exact hc) e1; have k1 := n1.cls; have k2 := n1.len; rw [hc1] at n1 k1; obtain ⟨L2, b2, n2⟩ := ze8 b (s.knots.length + 1) s2 q s3 (by omega) (by omega) e2; have k3 := n2.cls; rw [k1] at n2; have hf : folT (.either a b) s.cls.length = fun p q => folT a s.cls.length p q \/ folT b (s.cls.length + nPl a) p q := by funext p q; rw [folT]
      rw [nPl, cstT, nulT, fstT, lstT, hf]; simp only [Option.some.injEq, Prod.mk.injEq] at h; obtain ⟨rfl, rfl⟩ := h; obtain ⟨bs, hn⟩ := zkD hi h1s.symm rfl n1 n2 (fun x hx => by have := zb4 a _ x hx; omega) (fun x y hx => by have := zcS a _ x y hx; omega) (fun x hx => by have := zb4 b _ x hx; omega) (fun x y hx => by have := zcS b _ x y hx; omega); exact ⟨_, bs, hn⟩
 | .rep t m once, i, s, e, s', hi, hc, h => by
  rw [layT] at h; generalize h1s : ((s.push ⟨[], 0, false⟩).push ⟨[], 0, false⟩).link i [s.knots.length] = s1 at h; have hl1 : s1.knots.length = s.knots.length + 2 := by rw [<- h1s, zcj, zaK, zaK]
  have hc1 : s1.cls = s.cls := by rw [<- h1s]; rfl
  split at h
  . cases h
  rename_i p s2 e1
  obtain ⟨L1, b1, n1⟩ := ze8 t s.knots.length s1 p s2 (by omega) (by rw [hc1]; exact hc) e1; have k1 := n1.cls; rw [hc1] at n1 k1; have hf : folT (.rep t m once) s.cls.length = fun p q => folT t s.cls.length p q \/ (once = false /\ p ∈ lstT t s.cls.length /\ q ∈ fstT t s.cls.length) := by funext p q; rw [folT]
  rw [nPl, cstT, nulT, fstT, lstT, hf]; simp only [Option.some.injEq, Prod.mk.injEq] at h; obtain ⟨rfl, rfl⟩ := h; obtain ⟨bs, hn⟩ := net_rep (once := once) (m := m) hi h1s.symm rfl rfl rfl n1 (fun x hx => by have := zb4 t _ x hx; omega); exact ⟨_, bs, hn⟩
theorem net_row : ∀ (l : List Tree) (i : Nat) (s : zaz) (e : Nat) (s' : zaz), i < s.knots.length -> 1 <= s.cls.length -> layR l i s = some (e, s') ->
 ∃ Lnk bs, NetR (nPlR l) (cstR l) (nulR l) (fstR l s.cls.length) (lstR l s.cls.length) (folR l s.cls.length) i e s s' Lnk bs
 | [], i, s, e, s', hi, hc, h => by
  rw [layR] at h; cases h; have hf : folR [] s.cls.length = fun _ _ => False := by funext p q; rw [folR]
  rw [nPlR, cstR, nulR, fstR, lstR, hf]; exact ⟨_, _, net_nil i s (fun k hk => zcz _ _ hk)⟩
 | t :: l, i, s, e, s', hi, hc, h => by
  rw [layR] at h; split at h
  . cases h
  rename_i p s2 e1
  obtain ⟨L1, b1, n1⟩ := ze8 t i s p s2 hi hc e1; have k1 := n1.cls; have k2 := n1.len; have k4 := n1.fin; obtain ⟨L2, b2, n2⟩ := net_row l p s2 e s' (by rcases k4 with h | h <;> omega) (by omega) h; have k3 := n2.cls; rw [k1] at n2; have hf : folR (t :: l) s.cls.length = fun p q => folT t s.cls.length p q \/ folR l (s.cls.length + nPl t) p q \/ (p ∈ lstT t s.cls.length /\ q ∈ fstR l (s.cls.length + nPl t)) := by funext p q; rw [folR]
  rw [nPlR, cstR, nulR, fstR, lstR, hf]; exact net_comp hi n1 n2 (fun x hx => by have := zb4 t _ x hx; omega) (fun x y hx => by have := zcS t _ x y hx; omega) (fun x hx => by have := zig l _ x hx; omega) (fun x y hx => by have := zhX l _ x y hx; omega)
end
end Go.Proofs.YtghpmhllpaheiaaGreatDoor
