/-
  Part of the proof: Gt12, Gt13. No condition beyond those in the statements.
-/
import Derived.Test.YtghpmhllpaheiaaGreatDoorL33
import Derived.Test.YtghpmhllpaheiaaGreatDoorL25
set_option linter.unusedVariables false
set_option linter.unusedSimpArgs false
namespace Go.Proofs.YtghpmhllpaheiaaGreatDoor
section
open Go.RowKit Go.Lib
def Pre (w s : ByteArray) (k : Nat) : Prop := k <= w.size /\ k <= s.size /\ ∀ j, j < k -> byt w j = byt s j
def preB (w s : ByteArray) (k : Nat) : Bool := decide (k <= w.size) && (decide (k <= s.size) && (List.range k).all fun j => decide (byt w j = byt s j))
theorem zia (w s : ByteArray) (k : Nat) : preB w s k = true ↔ Pre w s k := by
 simp [preB, Pre]
structure Wds (ws : List ByteArray) : Prop where
 n1 : 1 <= ws.length
 n8 : ws.length <= 8
 sz : ∀ w ∈ ws, 1 <= w.size /\ w.size <= 7
 lt : ∀ w ∈ ws, letB w
theorem tot_le : ∀ ws : List ByteArray, (∀ w ∈ ws, w.size <= 7) -> totN ws <= 7 * ws.length
 | [], _ => by simp [totN]
 | w :: r, h => by
  have h1 := h w (by simp); have h2 := tot_le r (fun v hv => h v (by simp [hv])); simp only [totN, List.map_cons, List.sum_cons, List.length_cons] at h2 ⊢; omega
theorem Wds.tot {ws : List ByteArray} (h : Wds ws) : totN ws <= 56 := by
 have := tot_le ws fun w hw => (h.sz w hw).2; have := h.n8; omega
theorem zgP (f : Nat -> Bool) (g : Nat -> Nat) (q : Nat) (hq : q < 128) : ∀ (l : List Nat) (st : Set2), (l.foldl (fun st i => if f i = true then st.add (g i) else st) st).has q = true ↔ st.has q = true \/ ∃ i ∈ l, f i = true /\ q = g i
 | [], st => by simp
 | a :: l, st => by
  rw [List.foldl_cons, zgP f g q hq l]; constructor
  . rintro (h | ⟨i, hi, h⟩)
    . split at h
      . rename_i hf
        rw [zd0 _ _ _ hq, Bool.or_eq_true, decide_eq_true_eq] at h
        rcases h with h | h
        . exact .inl h
        exact .inr ⟨a, by simp, hf, h⟩
      exact .inl h
    exact .inr ⟨i, by simp [hi], h⟩
  rintro (h | ⟨i, hi, h1, h2⟩)
  . refine .inl ?_
    split
    . rw [zd0 _ _ _ hq, h]; rfl
    exact h
  rcases List.mem_cons.1 hi with rfl | hi
  . refine .inl ?_
    rw [if_pos h1, zd0 _ _ _ hq, h2]; simp
  exact .inr ⟨i, hi, h1, h2⟩
theorem zhG (f : Nat -> Bool) (g : Nat -> Nat) (hg : ∀ i, f i = true -> g i < 128) : ∀ (l : List Nat) (st : Set2), st.Ok -> (l.foldl (fun st i => if f i = true then st.add (g i) else st) st).Ok
 | [], st, h => h
 | a :: l, st, h => by
  rw [List.foldl_cons]; refine zhG f g hg l _ ?_; split
  . rename_i hf
    exact zhB h (hg a hf)
  exact h
def wset (ws : List ByteArray) (s : ByteArray) (k : Nat) : Set2 :=
 if k = 0 then (1, 0) else (List.range ws.length).foldl (fun st i => if preB (ws.getD i ⟨#[]⟩) s k = true then st.add (offN 1 ws i + k - 1) else st) (0, 0)
theorem zdG {ws : List ByteArray} {s : ByteArray} {k q : Nat} (hk : 0 < k) (hq : q < 128) : (wset ws s k).has q = true ↔ ∃ (i : Nat) (w : ByteArray), ws[i]? = some w /\ Pre w s k /\ q + 1 = offN 1 ws i + k := by
 unfold wset; rw [if_neg (by omega), zgP (fun i => preB (ws.getD i ⟨#[]⟩) s k) (fun i => offN 1 ws i + k - 1) q hq, zdi]; constructor
 . rintro (h | ⟨i, hi, h1, h2⟩)
   . cases h
   have hil : i < ws.length := by simpa using hi
   have hg : ws[i]? = some ws[i] := zLe hil; have hgd : ws.getD i ⟨#[]⟩ = ws[i] := by rw [zLf, hg]; rfl
   rw [hgd] at h1; have := zd9 1 ws i; exact ⟨i, ws[i], hg, (zia _ _ _).1 h1, by omega⟩
 rintro ⟨i, w, h1, h2, h3⟩
 have hgd : ws.getD i ⟨#[]⟩ = w := by rw [zLf, h1]; rfl
 refine .inr ⟨i, by simpa using (List.getElem?_eq_some_iff.1 h1).1, ?_, by omega⟩; rw [hgd]; exact (zia _ _ _).2 h2
theorem zgT (ws : List ByteArray) (s : ByteArray) {q : Nat} (hq : q < 128) : (wset ws s 0).has q = true ↔ q = 0 := by
 unfold wset; rw [if_pos rfl, has_start q hq, decide_eq_true_eq]
theorem zjv {ws : List ByteArray} (h : Wds ws) (s : ByteArray) (k : Nat) : (wset ws s k).Ok := by
 unfold wset; split
 . exact ⟨by decide, by decide⟩
 rename_i hk
 refine zhG (fun i => preB (ws.getD i ⟨#[]⟩) s k) (fun i => offN 1 ws i + k - 1) (fun i hi => ?_) _ _ zdX; rw [zia] at hi; have ht := h.tot; cases hg : ws[i]? with
 | none =>
  have : ws.getD i ⟨#[]⟩ = ⟨#[]⟩ := by rw [zLf, hg]; rfl
  rw [this] at hi; have := hi.1; exact absurd this (by show ¬ k <= 0; omega)
 | some w =>
  have hgd : ws.getD i ⟨#[]⟩ = w := by rw [zLf, hg]; rfl
  rw [hgd] at hi; have h1 := zdD ws 1 i w hg; have h2 := hi.1; omega
theorem in_let {s : ByteArray} (hl : letB s) {p : Nat} (hp : p < s.size) (c : Int) : za2 (clW s p) c = true ↔ (byt s p : Int) = c := by
 have h := hl p hp; simp only [za2, clW, zdf, List.any_cons, List.any_nil, Bool.or_false, Bool.and_eq_true, Bool.or_eq_true, decide_eq_true_eq]; omega
section
variable {ws : List ByteArray} {L : Lay} {sets : List Set2} {rule : List Int} {goes : List (List Int)} {bnd : Int}
theorem zkp (hS : zc2 L (ws.map zbN)) {i j : Nat} {w : ByteArray} (hi : ws[i]? = some w) (hj : j < w.size) : L.cls[offN 1 ws i + j]? = some (clW w j) := by
 rw [hS.cls, show offN 1 ws i + j = (offN 0 ws i + j) + 1 by rw [show (1 : Nat) = 0 + 1 from rfl, off_shift]; omega, zLc]; exact ziA ws i j w hi hj
theorem zfW (hS : zc2 L (ws.map zbN)) : L.cls.length = totN ws + 1 := by rw [hS.len, zfC]
theorem wstep (hw : Wds ws) (hS : zc2 L (ws.map zbN)) (s : ByteArray) (k : Nat) (c : Int) {q : Nat} (hq : q < 128) :
 ((zaw L (wset ws s k) L.cls.length).1.and (zav L.cls c)).has q = true ↔ ∃ (i : Nat) (w : ByteArray), ws[i]? = some w /\ Pre w s k /\ k < w.size /\ (byt w k : Int) = c /\ q = offN 1 ws i + k := by
 have ht := hw.tot; have hlen := zfW hS; rw [has_and, Bool.and_eq_true, zeZ, zeE _ _ _ hq]; have hc0 : L.cls[0]? = some [] := by rw [hS.cls]; rfl
 constructor
 . rintro ⟨⟨p, hp, hsp, hfp⟩, hm⟩
   have hq0 : 0 < q := by
    rcases Nat.eq_zero_or_pos q with rfl | h
    . rw [hc0] at hm; simp [za2] at hm
    exact h
   have fin : ∀ (i : Nat) (w : ByteArray), ws[i]? = some w -> Pre w s k -> k < w.size -> q = offN 1 ws i + k -> ∃ (i : Nat) (w : ByteArray), ws[i]? = some w /\ Pre w s k /\ k < w.size /\ (byt w k : Int) = c /\ q = offN 1 ws i + k := fun i w h1 h2 h3 h4 => by
    have hcl := zkp hS h1 h3; rw [<- h4] at hcl; rw [hcl] at hm; exact ⟨i, w, h1, h2, h3, (in_let (hw.lt w (List.mem_of_getElem? h1)) h3 c).1 hm, h4⟩
   rcases Nat.eq_zero_or_pos k with rfl | hk
   . rw [zgT ws s (by omega)] at hsp
     subst hsp; rw [hS.fol0 q hq0 hq, zft] at hfp; obtain ⟨i, w, h1, h2, h3⟩ := hfp; exact fin i w h1 ⟨Nat.zero_le _, Nat.zero_le _, fun j hj => by omega⟩ h3 (by omega)
   rw [zdG hk (by omega)] at hsp
   obtain ⟨i, w, h1, h2, h3⟩ := hsp; have hge := zd9 1 ws i; have h2' := h2.1; rw [hS.fol p (by omega) hp q hq0 hq, zfi] at hfp; obtain ⟨j, v, g1, g2, g3, g4⟩ := hfp; obtain rfl := offN_one (p := p) h1 g1 (by omega) (by omega) g2 (by omega); rw [h1] at g1; simp only [Option.some.injEq] at g1; subst g1; exact fin i w h1 h2 (by omega) (by omega)
 rintro ⟨i, w, h1, h2, h3, h4, h5⟩
 have hcl := zkp hS h1 h3; have hend := zdD ws 1 i w h1; have hge := zd9 1 ws i; rw [<- h5] at hcl; refine ⟨?_, by rw [hcl]; exact (in_let (hw.lt w (List.mem_of_getElem? h1)) h3 c).2 h4⟩
 rcases Nat.eq_zero_or_pos k with rfl | hk
 . exact ⟨0, by omega, (zgT ws s (by decide)).2 rfl, (hS.fol0 q (by omega) hq).2 ((zft _ _ _).2 ⟨i, w, h1, by omega, by omega⟩)⟩
 exact ⟨offN 1 ws i + k - 1, by omega, (zdG hk (by omega)).2 ⟨i, w, h1, h2, by omega⟩, (hS.fol _ (by omega) (by omega) q (by omega) hq).2 ((zfi _ _ _ _).2 ⟨i, w, h1, by omega, by omega, by omega⟩)⟩
theorem zgC (hS : zc2 L (ws.map zbN)) (st : Set2) (c : Int) : ((zaw L st L.cls.length).1.and (zav L.cls c)).Ok := ok_and (zfN hS.fok _ _)
theorem zfT {w s : ByteArray} {k : Nat} : Pre w s (k + 1) ↔ Pre w s k /\ k < w.size /\ k < s.size /\ byt w k = byt s k := by
 unfold Pre; constructor
 . rintro ⟨h1, h2, h3⟩; exact ⟨⟨by omega, by omega, fun j hj => h3 j (by omega)⟩, by omega, by omega, h3 k (by omega)⟩
 rintro ⟨⟨h1, h2, h3⟩, h4, h5, h6⟩
 refine ⟨by omega, by omega, fun j hj => ?_⟩
 rcases Nat.lt_or_ge j k with h | h
 . exact h3 j h
 obtain rfl : j = k := by omega
 exact h6
theorem wnext (hw : Wds ws) (hS : zc2 L (ws.map zbN)) {s : ByteArray} {k : Nat} (hk : k < s.size) : (zaw L (wset ws s k) L.cls.length).1.and (zav L.cls (byt s k)) = wset ws s (k + 1) := by
 refine zh1 (zgC hS _ _) (zjv hw s _) fun q hq => ?_; rw [Bool.eq_iff_iff, wstep hw hS s k _ hq, zdG (by omega) hq]; constructor
 . rintro ⟨i, w, h1, h2, h3, h4, h5⟩; exact ⟨i, w, h1, zfT.2 ⟨h2, h3, hk, by omega⟩, by omega⟩
 rintro ⟨i, w, h1, h2, h3⟩
 obtain ⟨g1, g2, g3, g4⟩ := zfT.1 h2; exact ⟨i, w, h1, g1, g2, by omega, by omega⟩
theorem wrule (hw : Wds ws) (hS : zc2 L (ws.map zbN)) (s : ByteArray) (k : Nat) :
 ((zaw L (wset ws s k) L.cls.length).2 = -1 /\ ∀ (i : Nat) (w : ByteArray), ws[i]? = some w -> Pre w s k -> w.size ≠ k) \/
 ∃ (i : Nat) (w : ByteArray), (zaw L (wset ws s k) L.cls.length).2 = (i : Int) /\ ws[i]? = some w /\ Pre w s k /\ w.size = k /\ ∀ (i' : Nat) (w' : ByteArray), ws[i']? = some w' -> Pre w' s k -> w'.size = k -> i <= i' := by
 have ht := hw.tot; have hlen := zfW hS; have hrl : ∀ (i : Nat) (w : ByteArray), ws[i]? = some w -> Pre w s k -> 0 < k -> L.rule.getD (offN 1 ws i + k - 1) (-1) = if k = w.size then (i : Int) else -1 := fun i w h1 h2 hk => by
  have hend := zdD ws 1 i w h1; have hge := zd9 1 ws i; have h3 := h2.1; rw [hS.rul _ (by omega) (by omega), show offN 1 ws i + k - 1 = offN 1 ws i + (k - 1) by omega, zhD ws 0 1 i (k - 1) w h1 (by omega), Nat.zero_add]; by_cases e : k = w.size
  . rw [if_pos e, if_pos (by omega)]
  rw [if_neg e, if_neg (by omega)]
 rcases Nat.eq_zero_or_pos k with rfl | hk
 . refine .inl ⟨?_, fun i w h1 _ h3 => by have := (hw.sz w (List.mem_of_getElem? h1)).1; omega⟩
   rcases zcw L (wset ws s 0) L.cls.length with ⟨h, _⟩ | ⟨h, ⟨p, h1, h2, h3⟩, _⟩
   . exact h
   rw [zgT ws s (by omega)] at h2
   subst h2; rw [hS.rul0] at h3; omega
 have hasw : ∀ (i : Nat) (w : ByteArray), ws[i]? = some w -> Pre w s k -> offN 1 ws i + k - 1 < L.cls.length /\ (wset ws s k).has (offN 1 ws i + k - 1) = true := fun i w h1 h2 => by
  have hend := zdD ws 1 i w h1; have hge := zd9 1 ws i; have h3 := h2.1; exact ⟨by omega, (zdG hk (by omega)).2 ⟨i, w, h1, h2, by omega⟩⟩
 rcases zcw L (wset ws s k) L.cls.length with ⟨h, hall⟩ | ⟨h, ⟨p, h1, h2, h3⟩, hall⟩
 . refine .inl ⟨h, fun i w h1 h2 h3 => ?_⟩
   obtain ⟨g1, g2⟩ := hasw i w h1 h2; have := hall _ g1 g2; rw [hrl i w h1 h2 hk, if_pos h3.symm] at this; omega
 rw [zdG hk (by omega)] at h2
 obtain ⟨i, w, g1, g2, g3⟩ := h2; have e : p = offN 1 ws i + k - 1 := by omega
 rw [e, hrl i w g1 g2 hk] at h3; by_cases hz : k = w.size
 . rw [if_pos hz] at h3
   refine .inr ⟨i, w, h3.symm, g1, g2, hz.symm, fun i' w' f1 f2 f3 => ?_⟩; obtain ⟨d1, d2⟩ := hasw i' w' f1 f2; have h9 := hrl i' w' f1 f2 hk; rw [if_pos f3.symm] at h9; have := hall _ d1 d2 (by rw [h9]; omega); rw [h9] at this; omega
 rw [if_neg hz] at h3; omega
theorem zk5 (hw : Wds ws) (hS : zc2 L (ws.map zbN)) (ms : List Set2) (hms : ∀ m ∈ ms, ∃ c, m = zav L.cls c) : ∃ rule goes, za1 L ms 202 [(1, 0)] [] [] = some (rule, goes) := by
 have ht := hw.tot; refine make_some (U := (1, 0) :: ws.flatMap fun w => (List.range w.size).map fun k => wset ws w (k + 1)) ?_ (by simp) ?_
 . have : ∀ l : List ByteArray, (l.flatMap fun w => (List.range w.size).map fun k => wset ws w (k + 1)).length = totN l := by
    intro l
    induction l with
    | nil => rfl
    | cons a l ih => rw [List.flatMap_cons, List.length_append, ih]; simp [totN]
   rw [List.length_cons, this]; omega
 intro st hst m hm hne
 obtain ⟨c, rfl⟩ := hms m hm; obtain ⟨s, k, hsk, rfl⟩ : ∃ s k, k <= s.size /\ st = wset ws s k := by
  rcases List.mem_cons.1 hst with rfl | h
  . exact ⟨⟨#[]⟩, 0, Nat.zero_le _, rfl⟩
  rw [List.mem_flatMap] at h
  obtain ⟨w, _, h⟩ := h; rw [List.mem_map] at h; obtain ⟨k, hk, h⟩ := h; have hk2 : k < w.size := by simpa using hk
  exact ⟨w, k + 1, by omega, h.symm⟩
 obtain ⟨q, hq, hh⟩ := (zga (zgC hS _ _)).1 hne; rw [wstep hw hS s k c hq] at hh; obtain ⟨i, w, h1, h2, h3, h4, h5⟩ := hh; refine List.mem_cons_of_mem _ (List.mem_flatMap.2 ⟨w, List.mem_of_getElem? h1, List.mem_map.2 ⟨k, by simpa using h3, ?_⟩⟩); refine zh1 (zjv hw w _) (zgC hS _ _) fun q' hq' => ?_; rw [Bool.eq_iff_iff, wstep hw hS s k _ hq', zdG (by omega) hq']; constructor
 . rintro ⟨i', w', g1, g2, g3⟩
   obtain ⟨f1, f2, f3, f4⟩ := zfT.1 g2; refine ⟨i', w', g1, ⟨f1.1, hsk, fun j hj => (f1.2.2 j hj).trans (h2.2.2 j hj)⟩, f2, by omega, by omega⟩
 rintro ⟨i', w', g1, g2, g3, g4, g5⟩
 refine ⟨i', w', g1, zfT.2 ⟨⟨by omega, by omega, fun j hj => (g2.2.2 j hj).trans (h2.2.2 j hj).symm⟩, g3, h3, by omega⟩, by omega⟩
def BestW (ws : List ByteArray) (s : ByteArray) (k long : Nat) (rule : Int) : Prop :=
 (rule = -1 /\ long = 0 /\ ∀ (i : Nat) (w : ByteArray), ws[i]? = some w -> Pre w s w.size -> ¬ w.size <= k) \/
 ∃ (i : Nat) (w : ByteArray), rule = (i : Int) /\ ws[i]? = some w /\ long = w.size /\ w.size <= k /\ Pre w s w.size /\ ∀ (i' : Nat) (w' : ByteArray), ws[i']? = some w' -> Pre w' s w'.size -> w'.size <= k -> w'.size < w.size \/ (w'.size = w.size /\ i <= i')
structure WInv (ws : List ByteArray) (sets : List Set2) (s : ByteArray) (k : Nat) (x : Run) : Prop where
 set : sets[x.set]? = some (wset ws s k)
 at' : x.alive = k
 le : k <= s.size
 best : BestW ws s k x.long x.rule
theorem zf6 {w s : ByteArray} {k : Nat} (h : Pre w s w.size) (hk : k <= w.size) : Pre w s k := ⟨hk, by have := h.2.1; omega, fun j hj => h.2.2 j (by omega)⟩
theorem full_let {s : ByteArray} (hl : letB s) {p : Nat} (hp : p < s.size) : zb1 s p = true := by
 unfold zb1; exact zei (.inl (by have := hl p hp; omega)) (zbR _ _) (by omega)
theorem zjb (hw : Wds ws) (hS : zc2 L (ws.map zbN)) (hr : ∀ c ∈ L.cls, zbP c) (hM : zen L ((zat L.cls).map (zav L.cls)) sets rule goes) (hl : rule.length = sets.length) {s : ByteArray} (hs : letB s) :
 ∀ (f : Nat) (x : Run) (k : Nat), WInv ws sets s k x -> ∃ k', WInv ws sets s k' (runT ⟨zat L.cls, rule, goes, bnd⟩ s f x)
 | 0, x, k, h => ⟨k, h⟩
 | f + 1, x, k, h => by
  rw [runT]; split
  . rename_i hg
    refine zjb hw hS hr hM hl hs f _ (k + 1) ?_; simp only [zaT, Bool.and_eq_true, decide_eq_true_eq] at hg; obtain ⟨g1, _, _, g4⟩ := hg; rw [h.at'] at g1 g4; have hd := zgA (hs k g1); rw [hd] at g4; have hx := h.set; have hcell := zji hr (by rw [zfW hS]; have := hw.tot; omega) hM hl hS.fok bnd hx (c := (byt s k : Int)) (by omega) (by have := hs k g1; omega); rw [wnext hw hS g1] at hcell; have hne : wset ws s (k + 1) ≠ (0, 0) := fun e => by have := hcell.1 e; dsimp only at g4; omega
    obtain ⟨j, hj, hjx⟩ := hcell.2 hne; have hjl : j < rule.length := by rw [hl]; exact (List.getElem?_eq_some_iff.1 hj).1
    obtain ⟨r, row, hr1, _, hr2⟩ := hM.row j _ hj hjl; have hre := hr2.1; have hgd : rule.getD j (-1) = r := by rw [zLf, hr1]; rfl
    have hst : zcT ⟨zat L.cls, rule, goes, bnd⟩ s x = if 0 <= r then ⟨j, k + 1, k + 1, r⟩ else ⟨j, k + 1, x.long, x.rule⟩ := by
     unfold zcT; rw [h.at', hd]; dsimp only; rw [hjx, Int.toNat_natCast, hgd]
    rw [hst]; have hb := h.best
    rcases wrule hw hS s (k + 1) with ⟨e1, e2⟩ | ⟨i, w, e1, e2, e3, e4, e5⟩
    . rw [<- hre] at e1
      rw [if_neg (by omega)]; refine ⟨hj, rfl, g1, ?_⟩
      rcases hb with ⟨b1, b2, b3⟩ | ⟨i, w, b1, b2, b3, b4, b5, b6⟩
      . refine .inl ⟨b1, b2, fun i w f1 f2 f3 => ?_⟩
        have := b3 i w f1 f2; exact e2 i w f1 (zf6 f2 (by omega)) (by omega)
      refine .inr ⟨i, w, b1, b2, b3, by omega, b5, fun i' w' f1 f2 f3 => ?_⟩
      by_cases hz : w'.size <= k
      . exact b6 i' w' f1 f2 hz
      exact absurd (by omega : w'.size = k + 1) (e2 i' w' f1 (zf6 f2 (by omega)))
    rw [<- hre] at e1
    rw [if_pos (by omega)]; refine ⟨hj, rfl, g1, .inr ⟨i, w, e1, e2, e4.symm, by omega, by rw [e4]; exact e3, fun i' w' f1 f2 f3 => ?_⟩⟩
    rcases Nat.lt_or_ge w'.size (k + 1) with hz | hz
    . exact .inl (by omega)
    exact .inr ⟨by omega, e5 i' w' f1 (zf6 f2 (by omega)) (by omega)⟩
  exact ⟨k, h⟩
theorem zjW (hw : Wds ws) (hS : zc2 L (ws.map zbN)) (hr : ∀ c ∈ L.cls, zbP c) (hM : zen L ((zat L.cls).map (zav L.cls)) sets rule goes) (hl : rule.length = sets.length) {s : ByteArray} (hs : letB s) (h0 : 0 < s.size) {C : Nat} (hC : s.size < C) :
 ∃ (rul : Int) (len : Nat), zcf ⟨zat L.cls, rule, goes, bnd⟩ C s 13 = .tok rul len /\ ((rul = -1 /\ len = 1 /\ ∀ (i : Nat) (w : ByteArray), ws[i]? = some w -> ¬ Pre w s w.size) \/
  ∃ (i : Nat) (w : ByteArray), rul = (i : Int) /\ ws[i]? = some w /\ len = w.size /\ Pre w s w.size /\ ∀ (i' : Nat) (w' : ByteArray), ws[i']? = some w' -> Pre w' s w'.size -> w'.size < w.size \/ (w'.size = w.size /\ i <= i')) := by
 obtain ⟨k, hk⟩ := zjb (bnd := bnd) hw hS hr hM hl hs (s.size + 1) run0 0 ⟨by simpa [wset, run0] using hM.hd, rfl, Nat.zero_le _, .inl ⟨rfl, rfl, fun i w h1 _ h3 => by have := (hw.sz w (List.mem_of_getElem? h1)).1; omega⟩⟩; have hst := zeO (T := ⟨zat L.cls, rule, goes, bnd⟩) (s := s) (s.size + 1) run0 (by show s.size < s.size + 1 + 0; omega); unfold zcf; generalize runT ⟨zat L.cls, rule, goes, bnd⟩ s (s.size + 1) run0 = y at hk hst ⊢; have hle := hk.le; have hat := hk.at'; have hpart : zd8 ⟨zat L.cls, rule, goes, bnd⟩ s y.set y.alive = 0 := by
  unfold zd8 zdw; rw [hat]; rw [if_neg]; intro h; simp only [zbc, Bool.and_eq_true, decide_eq_true_eq, Bool.not_eq_true'] at h; obtain ⟨h1, h2, _⟩ := h; rw [zei (.inl (by have := hs k (by omega); omega)) (zbR _ _) (by omega)] at h2; cases h2
 have hal : zbi ⟨zat L.cls, rule, goes, bnd⟩ s y = k := by unfold zbi; rw [hpart, hat]; rfl
 have hall : ∀ (i : Nat) (w : ByteArray), ws[i]? = some w -> Pre w s w.size -> w.size <= k := fun i w h1 h2 => by
  rcases Nat.lt_or_ge k w.size with hlt | hge
  . exfalso
    have hks : k < s.size := by have := h2.2.1; omega
    have hp := zf6 (k := k + 1) h2 (by omega); have hd := zgA (hs k hks); have hcell := zji hr (by rw [zfW hS]; have := hw.tot; omega) hM hl hS.fok bnd hk.set (c := (byt s k : Int)) (by omega) (by have := hs k hks; omega); rw [wnext hw hS hks] at hcell; have hne : wset ws s (k + 1) ≠ (0, 0) := by
     refine (zga (zjv hw _ _)).2 ⟨offN 1 ws i + k, ?_, ?_⟩
     . have := zdD ws 1 i w h1; have := hw.tot; omega
     exact (zdG (by omega) (by have := zdD ws 1 i w h1; have := hw.tot; omega)).2 ⟨i, w, h1, hp, by omega⟩
    obtain ⟨j, _, hjx⟩ := hcell.2 hne; have : zaT ⟨zat L.cls, rule, goes, bnd⟩ s y.set y.alive = true := by
     rw [hat]; simp only [zaT, Bool.and_eq_true, decide_eq_true_eq, Bool.not_eq_true', decide_eq_false_iff_not]; rw [hd]; have hlk := hs k hks; refine ⟨hks, full_let hs hks, ?_, by dsimp only; omega⟩; intro e; simp only [Prod.mk.injEq] at e; omega
    rw [this] at hst; cases hst
  exact hge
 dsimp only; rw [hal, if_neg (by omega), if_neg (fun h => h.2 rfl), if_neg (by omega)]
 rcases hk.best with ⟨b1, b2, b3⟩ | ⟨i, w, b1, b2, b3, b4, b5, b6⟩
 . rw [b1, if_pos (by decide), if_neg (fun h => h.2 rfl), zgA (hs 0 h0)]
   exact ⟨_, _, rfl, .inl ⟨rfl, rfl, fun i w h1 h2 => b3 i w h1 h2 (hall i w h1 h2)⟩⟩
 rw [if_neg (by omega)]
 exact ⟨_, _, rfl, .inr ⟨i, w, b1, b2, b3, b5, fun i' w' h1 h2 => b6 i' w' h1 h2 (hall i' w' h1 h2)⟩⟩
end
theorem ziF {T : Tab} {C : Nat} : ∀ (n : Nat) (s : ByteArray) (pos line col : Int) (i : Nat) (t : Tk), (za0 T C 13 n s pos line col).1[i]? = some t ->
 zcf T C (s.extract (atN (za0 T C 13 n s pos line col).1 i) s.size) 13 = .tok t.rule t.text.size
 | 0, s, pos, line, col, i, t, h => by simp [za0] at h
 | n + 1, s, pos, line, col, i, t, h => by
  rw [za0] at h ⊢; cases hR : zcf T C s 13 with
  | err k => rw [hR] at h; simp at h
  | tok rule len =>
   have hl := zek (rule' := 0) hR; rw [hR] at h; dsimp only at h ⊢; cases i with
   | zero =>
    simp only [zLb, Option.some.injEq] at h; subst h; rw [zfZ, show s.extract 0 s.size = s from ByteArray.extract_zero_size, hR]; dsimp only; rw [zbk s len hl.2]
   | succ i =>
    simp only [zLc] at h; have ih := ziF n _ _ _ _ i t h; rw [zh4]; dsimp only; rw [zbk s len hl.2, <- ih, ByteArray.extract_extract]; congr 1; have hz := zbG s len s.size (Nat.le_refl _); rw [hz]; congr 1; omega
end
section
open Go.RowKit Go.Lib
def TokW (ws : List ByteArray) (s : ByteArray) (rul : Int) (len : Nat) : Prop :=
 (rul = -1 /\ len = 1 /\ ∀ (i : Nat) (w : ByteArray), ws[i]? = some w -> ¬ Pre w s w.size) \/
 ∃ (i : Nat) (w : ByteArray), rul = (i : Int) /\ ws[i]? = some w /\ len = w.size /\ Pre w s w.size /\ ∀ (i' : Nat) (w' : ByteArray), ws[i']? = some w' -> Pre w' s w'.size -> w'.size < w.size \/ (w'.size = w.size /\ i <= i')
theorem ziU : ∀ ws : List ByteArray, ((ws.map zbN).flatMap clsT).length = totN ws
 | [] => rfl
 | a :: l => by rw [List.map_cons, List.flatMap_cons, List.length_append, ziU l, zfU, zcR]; simp [totN]
theorem zkQ {ws : List ByteArray} (hw : Wds ws) : ∃ T f trees s2 L rule goes fb best2 b2, Comp ws T f trees s2 L rule goes ws.length fb best2 b2 /\ WfT T ws.length /\
 ∀ (s : ByteArray) (C : Nat), letB s -> 0 < s.size -> s.size < C -> ∃ rul len, zcf T C s 13 = .tok rul len /\ TokW ws s rul len := by
 have ht := hw.tot; have h8 := hw.n8; have hcl := words_rng hw.lt; obtain ⟨f, s2, L, hrun, hS, hmk⟩ := zkY (strs := ws) (trees := ws.map zbN) hw.n1 hw.n8 (fun s hs => by have := (hw.sz s hs).2; omega) (fun i s hs => ⟨zbN s, by rw [List.getElem?_map, hs]; rfl, parse_let (hw.lt s (List.mem_of_getElem? hs))⟩) (by simp) (by rw [zfC]; omega) (by rw [zht]; omega) (fun c hc => (hcl c hc).1) (by
  have : ∀ l : List (List (Int × Int)), (∀ c ∈ l, c.length = 1) -> (l.flatMap zay).length <= 2 * l.length := by
   intro l
   induction l with
   | nil => intro _; simp
   | cons a l ih =>
    intro h; have h1 := ih (fun c hc => h c (by simp [hc])); have h2 := h a (by simp); have h3 : (zay a).length <= 2 * a.length := by
     unfold zay; clear h1 h2 h ih
     induction a with
     | nil => simp
     | cons r a ih =>
      rw [List.flatMap_cons, List.length_append, List.length_cons]; split <;> simp at ih ⊢ <;> omega
    rw [List.flatMap_cons, List.length_append, List.length_cons]; omega
  have h1 := this ((ws.map zbN).flatMap clsT) (fun c hc => (hcl c hc).2); have h2 := ziU ws; unfold zba; rw [List.flatMap_cons, List.length_append, List.length_append]; have h3 : (zay []).length = 0 := rfl; have h4 : za8.length = 6 := rfl; omega)
 obtain ⟨rule, goes, hm⟩ := zk5 hw hS ((zat L.cls).map (zav L.cls)) (fun m hm => by
  rw [List.mem_map] at hm; obtain ⟨c, _, rfl⟩ := hm; exact ⟨c, rfl⟩)
 obtain ⟨sets, fb, best2, b2, hM, hl, hb, hC⟩ := hmk rule goes hm; have hr := hC.ranges; refine ⟨_, f, _, s2, L, rule, goes, fb, best2, b2, hC, ⟨hC.wf.rise, hC.wf.head, hC.wf.top, hC.wf.some', hC.wf.rules, hC.wf.rows, hC.wf.cells, hC.wf.ruleR⟩, fun s C hs h0 hC' => ?_⟩; exact zjW hw hS hr hM hl hs h0 hC'
def StW (w x : ByteArray) (p : Nat) : Prop := p + w.size <= x.size /\ x.extract p (p + w.size) = w
theorem zgy (x : ByteArray) (a b j : Nat) (hb : b <= x.size) (hj : a + j < b) : byt (x.extract a b) j = byt x (a + j) := by
 unfold byt; congr 1; simp only [ByteArray.get!]; rw [getElem!_def, getElem!_def]; have e : (x.extract a b).data[j]? = x.data[a + j]? := by
  rw [ByteArray.data_extract, Array.getElem?_extract]; have hz : x.data.size = x.size := rfl; rw [if_pos (by omega)]
 rw [e]
theorem bytes_ext {a b : ByteArray} (hs : a.size = b.size) (h : ∀ j, j < a.size -> byt a j = byt b j) : a = b := by
 have hd : a.data = b.data := by
  refine Array.ext hs fun j h1 h2 => ?_; have := h j h1; unfold byt at this; simp only [ByteArray.get!] at this; rw [getElem!_def, getElem!_def, Array.getElem?_eq_getElem h1, Array.getElem?_eq_getElem h2] at this; exact UInt8.toNat_inj.1 this
 cases a; cases b; congr
theorem zfh {w x : ByteArray} {p : Nat} (hp : p <= x.size) : StW w x p ↔ Pre w (x.extract p x.size) w.size := by
 have hz : (x.extract p x.size).size = x.size - p := by simp
 unfold StW Pre; rw [hz]; constructor
 . rintro ⟨h1, h2⟩
   refine ⟨Nat.le_refl _, by omega, fun j hj => ?_⟩; rw [zgy x p x.size j (Nat.le_refl _) (by omega), <- zgy x p (p + w.size) j h1 (by omega), h2]
 rintro ⟨_, h1, h2⟩
 refine ⟨by omega, bytes_ext (by simp; omega) fun j hj => ?_⟩; have hz2 : (x.extract p (p + w.size)).size = w.size := by simp; omega
 rw [hz2] at hj; rw [zgy x p (p + w.size) j (by omega) (by omega), h2 j hj, zgy x p x.size j (Nat.le_refl _) (by omega)]
def zex (ws : List ByteArray) (x : ByteArray) (p k : Nat) (best : Int) : Prop :=
 (best = -1 /\ ∀ (i : Nat) (w : ByteArray), i < k -> ws[i]? = some w -> ¬ StW w x p) \/
 ∃ (i : Nat) (w : ByteArray), best = (i : Int) /\ i < k /\ ws[i]? = some w /\ StW w x p /\ ∀ (i' : Nat) (w' : ByteArray), i' < k -> ws[i']? = some w' -> StW w' x p -> w'.size < w.size \/ (w'.size = w.size /\ i <= i')
theorem zex.zero (ws : List ByteArray) (x : ByteArray) (p : Nat) : zex ws x p 0 (-1) := .inl ⟨rfl, fun i w h => by omega⟩
theorem zex.skip {ws : List ByteArray} {x : ByteArray} {p k : Nat} {best : Int} {w : ByteArray} (h : zex ws x p k best) (hk : ws[k]? = some w) (hn : ¬ StW w x p) : zex ws x p (k + 1) best := by
 rcases h with ⟨h1, h2⟩ | ⟨i, v, h1, h2, h3, h4, h5⟩
 . refine .inl ⟨h1, fun i v hi hv => ?_⟩
   rcases Nat.lt_or_ge i k with h | h
   . exact h2 i v h hv
   obtain rfl : i = k := by omega
   rw [hk] at hv; cases hv; exact hn
 refine .inr ⟨i, v, h1, by omega, h3, h4, fun i' w' hi hw hs => ?_⟩
 rcases Nat.lt_or_ge i' k with h | h
 . exact h5 i' w' h hw hs
 obtain rfl : i' = k := by omega
 rw [hk] at hw; cases hw; exact absurd hs hn
theorem zex.first {ws : List ByteArray} {x : ByteArray} {p k : Nat} {best : Int} {w : ByteArray} (h : zex ws x p k best) (hb : best < 0) (hk : ws[k]? = some w) (hs : StW w x p) : zex ws x p (k + 1) (k : Nat) := by
 rcases h with ⟨h1, h2⟩ | ⟨i, v, h1, _⟩
 . refine .inr ⟨k, w, rfl, by omega, hk, hs, fun i' w' hi hw hs' => ?_⟩
   rcases Nat.lt_or_ge i' k with h | h
   . exact absurd hs' (h2 i' w' h hw)
   obtain rfl : i' = k := by omega
   rw [hk] at hw; cases hw; exact .inr ⟨rfl, Nat.le_refl _⟩
 omega
theorem zex.get {ws : List ByteArray} {x : ByteArray} {p k : Nat} {best : Int} (h : zex ws x p k best) (hb : ¬ best < 0) : ∃ (i : Nat) (v : ByteArray), best = (i : Int) /\ i < k /\ ws[i]? = some v /\ StW v x p /\
 (∀ w : ByteArray, ws[k]? = some w -> StW w x p -> v.size < w.size -> zex ws x p (k + 1) (k : Nat)) /\ (∀ w : ByteArray, ws[k]? = some w -> ¬ v.size < w.size -> zex ws x p (k + 1) best) := by
 rcases h with ⟨h1, _⟩ | ⟨i, v, h1, h2, h3, h4, h5⟩
 . omega
 refine ⟨i, v, h1, h2, h3, h4, fun w hk hs hlt => ?_, fun w hk hge => ?_⟩
 . refine .inr ⟨k, w, rfl, by omega, hk, hs, fun i' w' hi hw hs' => ?_⟩
   rcases Nat.lt_or_ge i' k with h | h
   . rcases h5 i' w' h hw hs' with e | e <;> omega
   obtain rfl : i' = k := by omega
   rw [hk] at hw; cases hw; exact .inr ⟨rfl, Nat.le_refl _⟩
 refine .inr ⟨i, v, h1, by omega, h3, h4, fun i' w' hi hw hs' => ?_⟩
 rcases Nat.lt_or_ge i' k with h | h
 . exact h5 i' w' h hw hs'
 obtain rfl : i' = k := by omega
 rw [hk] at hw; cases hw
 rcases Nat.lt_or_ge w.size v.size with e | e
 . exact .inl e
 exact .inr ⟨by omega, by omega⟩
theorem best_tok {ws : List ByteArray} {x : ByteArray} {p : Nat} {best rul : Int} {len : Nat} (hp : p <= x.size) (h : zex ws x p ws.length best) (ht : TokW ws (x.extract p x.size) rul len) :
 best = rul /\ ((rul = -1 /\ len = 1) \/ ∃ (i : Nat) (w : ByteArray), rul = (i : Int) /\ i < ws.length /\ ws[i]? = some w /\ w.size = len /\ x.extract p (p + len) = w) := by
 rcases ht with ⟨t1, t2, t3⟩ | ⟨i, w, t1, t2, t3, t4, t5⟩
 . rcases h with ⟨h1, h2⟩ | ⟨i, v, h1, h2, h3, h4, h5⟩
   . exact ⟨by omega, .inl ⟨t1, t2⟩⟩
   exact absurd ((zfh hp).1 h4) (t3 i v h3)
 have hil := (List.getElem?_eq_some_iff.1 t2).1
 have hst := (zfh hp).2 t4; have hres : ∃ (i : Nat) (w : ByteArray), rul = (i : Int) /\ i < ws.length /\ ws[i]? = some w /\ w.size = len /\ x.extract p (p + len) = w := ⟨i, w, t1, hil, t2, t3.symm, by rw [t3]; exact hst.2⟩
 rcases h with ⟨h1, h2⟩ | ⟨j, v, h1, h2, h3, h4, h5⟩
 . exact absurd hst (h2 i w hil t2)
 refine ⟨?_, .inr hres⟩
 have a1 := h5 i w hil t2 hst; have a2 := t5 j v h3 ((zfh hp).1 h4); omega
end
end Go.Proofs.YtghpmhllpaheiaaGreatDoor
