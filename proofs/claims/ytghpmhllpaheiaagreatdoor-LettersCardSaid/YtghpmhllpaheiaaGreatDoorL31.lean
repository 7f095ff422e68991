/-
  Part of the proof: Gt4. No condition beyond those in the statements.
-/
import Derived.Test.YtghpmhllpaheiaaGreatDoorL01
set_option linter.unusedVariables false
set_option linter.unusedSimpArgs false
namespace Go.Proofs.YtghpmhllpaheiaaGreatDoor
def RchN (G : List Knot) : Nat -> Nat -> Nat -> Prop
 | 0, k, x => k = x
 | n + 1, k, x => ∃ j ∈ toOf G k, RchN G n j x
def Rch (G : List Knot) (k x : Nat) : Prop := ∃ n, RchN G n k x
theorem Rch.refl (G : List Knot) (k : Nat) : Rch G k k := ⟨0, rfl⟩
theorem Rch.step {G : List Knot} {k j x : Nat} (hj : j ∈ toOf G k) (h : Rch G j x) : Rch G k x := by
 obtain ⟨n, h⟩ := h; exact ⟨n + 1, j, hj, h⟩
theorem dfs_spec (G : List Knot) : ∀ (f : Nat),
 (∀ k seen l, dfs G f k seen = some l -> (∀ x ∈ seen, x ∈ l) /\ k ∈ l /\ (∀ x ∈ l, x ∈ seen \/ Rch G k x) /\ ∀ x ∈ l, x ∉ seen -> ∀ y ∈ toOf G x, y ∈ l) /\
 (∀ r seen l, dfsL G f r seen = some l -> (∀ x ∈ seen, x ∈ l) /\ (∀ k ∈ r, k ∈ l) /\ (∀ x ∈ l, x ∈ seen \/ ∃ k ∈ r, Rch G k x) /\ ∀ x ∈ l, x ∉ seen -> ∀ y ∈ toOf G x, y ∈ l) := by
 intro f
 induction f with
 | zero => exact ⟨fun k seen l h => (by rw [dfs] at h; cases h), fun r seen l h => (by rw [dfsL] at h; cases h)⟩
 | succ f ih =>
  refine ⟨fun k seen l h => ?_, fun r seen l h => ?_⟩
  . rw [dfs] at h
    split at h
    . rename_i hc
      cases h; have hm : k ∈ seen := by simpa using hc
      exact ⟨fun x hx => hx, hm, fun x hx => .inl hx, fun x hx hn => absurd hx hn⟩
    obtain ⟨a1, a2, a3, a4⟩ := ih.2 _ _ _ h
    refine ⟨fun x hx => a1 x (by simp [hx]), a1 k (by simp), fun x hx => ?_, fun x hx hn y hy => ?_⟩
    . rcases a3 x hx with h1 | ⟨j, hj, h1⟩
      . rcases List.mem_append.1 h1 with h1 | h1
        . exact .inl h1
        rw [List.mem_singleton] at h1; subst h1; exact .inr (Rch.refl G x)
      exact .inr (Rch.step hj h1)
    by_cases e : x = k
    . subst e; exact a2 y hy
    exact a4 x hx (by simp [hn, e]) y hy
  cases r with
  | nil =>
   rw [dfsL] at h; cases h; exact ⟨fun x hx => hx, fun k hk => (by cases hk), fun x hx => .inl hx, fun x hx hn => absurd hx hn⟩
  | cons k r =>
   rw [dfsL] at h; split at h
   . cases h
   rename_i s2 h2
   obtain ⟨a1, a2, a3, a4⟩ := ih.1 _ _ _ h2; obtain ⟨b1, b2, b3, b4⟩ := ih.2 _ _ _ h; refine ⟨fun x hx => b1 x (a1 x hx), fun j hj => ?_, fun x hx => ?_, fun x hx hn y hy => ?_⟩
   . rcases List.mem_cons.1 hj with rfl | hj
     . exact b1 j a2
     exact b2 j hj
   . rcases b3 x hx with h1 | ⟨j, hj, h1⟩
     . rcases a3 x h1 with h1 | h1
       . exact .inl h1
       exact .inr ⟨k, by simp, h1⟩
     exact .inr ⟨j, by simp [hj], h1⟩
   by_cases e : x ∈ s2
   . exact b1 y (a4 x e hn y hy)
   exact b4 x hx e y hy
theorem zeY {G : List Knot} {f k : Nat} {l : List Nat} (h : dfs G f k [] = some l) (x : Nat) : x ∈ l ↔ Rch G k x := by
 obtain ⟨_, h2, h3, h4⟩ := (dfs_spec G f).1 k [] l h; constructor
 . intro hx
   rcases h3 x hx with h | h
   . cases h
   exact h
 rintro ⟨n, hn⟩
 have key : ∀ (n j : Nat), j ∈ l -> RchN G n j x -> x ∈ l := by
  intro n
  induction n with
  | zero => intro j hj e; rw [RchN] at e; subst e; exact hj
  | succ n ih =>
   rintro j hj ⟨i, hi, hr⟩; exact ih i (h4 j hj (by simp) i hi) hr
 exact key n k h2 hn
structure NetOk (G : List Knot) (m : Nat) : Prop where
 link : ∀ k, ∀ j ∈ toOf G k, j < G.length
 deg : ∀ k, (toOf G k).length <= m
theorem dfs_ends {G : List Knot} {m : Nat} (hG : NetOk G m) : ∀ (f : Nat),
 (∀ k seen, k < G.length -> seen.Nodup -> (∀ x ∈ seen, x < G.length) -> (G.length - seen.length) * (m + 2) + 1 <= f -> ∃ l, dfs G f k seen = some l /\ l.Nodup /\ (∀ x ∈ l, x < G.length) /\ seen.length <= l.length) /\
 (∀ (r : List Nat) seen, (∀ k ∈ r, k < G.length) -> seen.Nodup -> (∀ x ∈ seen, x < G.length) -> r.length + (G.length - seen.length) * (m + 2) + 1 <= f -> ∃ l, dfsL G f r seen = some l /\ l.Nodup /\ (∀ x ∈ l, x < G.length) /\ seen.length <= l.length) := by
 intro f
 induction f with
 | zero => exact ⟨fun k seen hk hn hs hf => by omega, fun r seen hk hn hs hf => by omega⟩
 | succ f ih =>
  refine ⟨fun k seen hk hn hs hf => ?_, fun r seen hk hn hs hf => ?_⟩
  . rw [dfs]
    by_cases hc : seen.contains k = true
    . rw [if_pos hc]
      exact ⟨seen, rfl, hn, hs, Nat.le_refl _⟩
    rw [if_neg hc]
    have hkn : k ∉ seen := by simpa using hc
    have hn2 : (seen ++ [k]).Nodup := by
     rw [List.nodup_append]; refine ⟨hn, by simp, fun a ha b hb e => ?_⟩; rw [List.mem_singleton] at hb; subst hb; exact hkn (e ▸ ha)
    have hs2 : ∀ x ∈ seen ++ [k], x < G.length := fun x hx => by
     rcases List.mem_append.1 hx with hx | hx
     . exact hs x hx
     rw [List.mem_singleton] at hx; rw [hx]; exact hk
    have hlen := hn2.length_le_of_subset (l₂ := List.range G.length) (fun x hx => List.mem_range.2 (hs2 x hx)); rw [List.length_range, List.length_append, List.length_singleton] at hlen; have hd := hG.deg k; have hmul : (G.length - seen.length) * (m + 2) = (G.length - (seen ++ [k]).length) * (m + 2) + (m + 2) := by
     rw [List.length_append, List.length_singleton, show G.length - seen.length = (G.length - (seen.length + 1)) + 1 by omega, Nat.add_mul]; omega
    obtain ⟨l, h1, h2, h3, h4⟩ := ih.2 (toOf G k) (seen ++ [k]) (hG.link k) hn2 hs2 (by omega); exact ⟨l, h1, h2, h3, by simp at h4; omega⟩
  cases r with
  | nil => exact ⟨seen, by rw [dfsL], hn, hs, Nat.le_refl _⟩
  | cons k r =>
   rw [dfsL]; simp only [List.length_cons] at hf; obtain ⟨s2, h1, h2, h3, h4⟩ := ih.1 k seen (hk k (by simp)) hn hs (by omega); rw [h1]; have hmul : (G.length - s2.length) * (m + 2) <= (G.length - seen.length) * (m + 2) := Nat.mul_le_mul_right _ (by omega); obtain ⟨l, a1, a2, a3, a4⟩ := ih.2 r s2 (fun j hj => hk j (by simp [hj])) h2 h3 (by omega); exact ⟨l, a1, a2, a3, by omega⟩
theorem zks {G : List Knot} {m k f : Nat} (hG : NetOk G m) (hk : k < G.length) (hf : G.length * (m + 2) + 1 <= f) : ∃ l, dfs G f k [] = some l := by
 obtain ⟨l, h, _⟩ := (dfs_ends hG f).1 k [] hk (by simp) (fun x hx => by cases hx) (by simpa using hf); exact ⟨l, h⟩
end Go.Proofs.YtghpmhllpaheiaaGreatDoor
