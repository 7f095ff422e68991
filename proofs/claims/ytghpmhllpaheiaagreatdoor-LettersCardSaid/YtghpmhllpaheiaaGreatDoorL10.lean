/-
  Part of the proof: Lay1, Sets. No condition beyond those in the statements.
-/
import Derived.Laws.Bits64
import Derived.Laws.Bits64b
import Derived.Test.YtghpmhllpaheiaaGreatDoorL01
import Derived.Test.YtghpmhllpaheiaaGreatDoorL00
import Derived.Test.YtghpmhllpaheiaaGreatDoorL06
set_option linter.unusedVariables false
set_option linter.unusedSimpArgs false
set_option maxRecDepth 100000
namespace Go.Proofs.YtghpmhllpaheiaaGreatDoor
section
open Go.RowKit Go.Lib
abbrev zaj (a : Nat) : Value := .pointer (some ⟨a, 0, none⟩)
structure KAt (w : World) (tag : Nat -> Nat) (adr : List Nat) (vs : List Value) (G : List Knot) (seen : Nat -> Bool) : Prop where
 la : adr.length = G.length
 lv : vs.length = G.length
 cell : ∀ i, i < G.length -> w.heap[adr.getD i 0]? = some (.cells #[vs.getD i undef, .int .i64 (zao G i), .bool (za7 G i), .bool (seen i)] 143 (0, 0))
 row : ∀ i, i < G.length -> w.ownsRow 0 141 1 (vs.getD i undef) (toOf G i).length ((toOf G i).map fun j => zaj (adr.getD j 0))
 ta : ∀ i, i < G.length -> tag (adr.getD i 0) = 10 + 2 * i
 tv : ∀ i g, i < G.length -> (vs.getD i undef).ownBlock = some g -> tag g = 11 + 2 * i
 wf : ∀ i j, i < G.length -> j ∈ toOf G i -> j < G.length
structure KUpd (tag tag' : Nat -> Nat) (w w' : World) : Prop where
 os : w'.os = w.os
 tape : w'.tape = w.tape
 output : w'.output = w.output
 size : w.heap.size <= w'.heap.size
 tags : ∀ b, b < w.heap.size -> tag' b = tag b
 keep : ∀ b, b < w.heap.size -> tag b < 10 -> w'.heap[b]? = w.heap[b]?
theorem KUpd.refl (tag : Nat -> Nat) (w : World) : KUpd tag tag w w := ⟨rfl, rfl, rfl, Nat.le_refl _, fun _ _ => rfl, fun _ _ _ => rfl⟩
theorem KUpd.trans {t1 t2 t3 : Nat -> Nat} {a b c : World} (h : KUpd t1 t2 a b) (k : KUpd t2 t3 b c) : KUpd t1 t3 a c :=
 ⟨k.os.trans h.os, k.tape.trans h.tape, k.output.trans h.output, Nat.le_trans h.size k.size, fun x hx => (k.tags x (zLd hx h.size)).trans (h.tags x hx),
  fun x hx ht => (k.keep x (zLd hx h.size) (by rw [h.tags x hx]; exact ht)).trans (h.keep x hx ht)⟩
theorem KUpd.below {tag : Nat -> Nat} {w w' : World} (h : Below w.heap.size w w') : KUpd tag tag w w' := ⟨h.os, h.tape, h.output, h.size, fun _ _ => rfl, fun b hb _ => h.block b hb⟩
theorem KAt.below {w w' : World} {tag : Nat -> Nat} {adr : List Nat} {vs : List Value} {G : List Knot} {seen : Nat -> Bool} (h : KAt w tag adr vs G seen) (hb : Below w.heap.size w w') : KAt w' tag adr vs G seen :=
 ⟨h.la, h.lv, fun i hi => (hb.block _ (zaa (h.cell i hi))).trans (h.cell i hi), fun i hi => za6 (h.row i hi) hb, h.ta, h.tv, h.wf⟩
theorem KAt.apart {w w' : World} {tag tag' : Nat -> Nat} {adr : List Nat} {vs : List Value} {G : List Knot} {seen : Nat -> Bool} (h : KAt w tag adr vs G seen)
 (ht : ∀ b, b < w.heap.size -> tag' b = tag b) (hk : ∀ b, b < w.heap.size -> 10 <= tag b -> w'.heap[b]? = w.heap[b]?) : KAt w' tag' adr vs G seen := by
 refine ⟨h.la, h.lv, fun i hi => ?_, fun i hi => ?_, fun i hi => ?_, fun i g hi hg => ?_, h.wf⟩
 . exact (hk _ (zaa (h.cell i hi)) (by rw [h.ta i hi]; omega)).trans (h.cell i hi)
 . exact zaI (h.row i hi) fun g hg => hk g ((h.row i hi).lt g hg).2 (by rw [h.tv i g hi hg]; omega)
 . rw [ht _ (zaa (h.cell i hi))]; exact h.ta i hi
 rw [ht _ ((h.row i hi).lt g hg).2]; exact h.tv i g hi hg
def zaR (tag : Nat -> Nat) (n c : Nat) : Nat -> Nat := fun b => if b = n then c else tag b
theorem zaM {tag : Nat -> Nat} {n c b : Nat} (h : b ≠ n) : zaR tag n c b = tag b := if_neg h
theorem zch (tag : Nat -> Nat) (n c : Nat) : zaR tag n c n = c := if_pos rfl
theorem zas {α : Type} {l r : List α} {i : Nat} {d : α} (h : i < l.length) : (l ++ r).getD i d = l.getD i d := by
 rw [zLf, List.getElem?_append_left h, <- zLf]
theorem zaQ {α : Type} {l : List α} {x d : α} : (l ++ [x]).getD l.length d = x := by
 rw [zLf, List.getElem?_append_right (Nat.le_refl _)]; simp
theorem zdI {G : List Knot} {k : Knot} {i : Nat} (h : i < G.length) : toOf (G ++ [k]) i = toOf G i := by unfold toOf; rw [List.getElem?_append_left h]
theorem zgR {G : List Knot} {k : Knot} {i : Nat} (h : i < G.length) : zao (G ++ [k]) i = zao G i := by unfold zao; rw [List.getElem?_append_left h]
theorem finOf_app {G : List Knot} {k : Knot} {i : Nat} (h : i < G.length) : za7 (G ++ [k]) i = za7 G i := by unfold za7; rw [List.getElem?_append_left h]
theorem KAt.push {w : World} {tag : Nat -> Nat} {adr : List Nat} {vs : List Value} {G : List Knot} {seen : Nat -> Bool} (h : KAt w tag adr vs G seen) (n : Nat) (hs : seen G.length = false) :
 KAt (w.alloc (.cells #[.slice none 0 0, .int .i64 n, .bool false, .bool false] 143)) (zaR tag w.heap.size (10 + 2 * G.length)) (adr ++ [w.heap.size]) (vs ++ [.slice none 0 0]) (G ++ [⟨[], n, false⟩]) seen := by
 have hb := (Below.refl w.heap.size w).alloc (Nat.le_refl _) (.cells #[.slice none 0 0, .int .i64 n, .bool false, .bool false] 143); have hlen : (G ++ [(⟨[], n, false⟩ : Knot)]).length = G.length + 1 := by simp
 refine ⟨by simp [h.la], by simp [h.lv], fun i hi => ?_, fun i hi => ?_, fun i hi => ?_, fun i g hi hg => ?_, fun i j hi hj => ?_⟩
 . rcases Nat.lt_or_ge i G.length with hl | hl
   . rw [zas (by rw [h.la]; exact hl), zas (by rw [h.lv]; exact hl), zgR hl, finOf_app hl]
     exact (hb.block _ (zaa (h.cell i hl))).trans (h.cell i hl)
   have : i = G.length := by omega
   subst this
   conv => lhs; rw [<- h.la, zaQ, zap, if_pos rfl]
   conv => rhs; rw [<- h.lv, zaQ, h.lv]
   simp [zao, za7, hs]
 . rcases Nat.lt_or_ge i G.length with hl | hl
   . rw [zas (by rw [h.lv]; exact hl), zdI hl]
     have e : (toOf G i).map (fun j => zaj ((adr ++ [w.heap.size]).getD j 0)) = (toOf G i).map fun j => zaj (adr.getD j 0) :=
      List.map_congr_left fun j hj => by rw [zas (by rw [h.la]; exact h.wf i j hl hj)]
     rw [e]; exact za6 (h.row i hl) hb
   have : i = G.length := by omega
   subst this; have e : toOf (G ++ [(⟨[], n, false⟩ : Knot)]) G.length = [] := by simp [toOf]
   rw [e]
   conv => rw [<- h.lv, zaQ]
   exact zdj _ _ _
 . rcases Nat.lt_or_ge i G.length with hl | hl
   . rw [zas (by rw [h.la]; exact hl), zaM (by have := zaa (h.cell i hl); omega)]
     exact h.ta i hl
   have : i = G.length := by omega
   subst this; rw [<- h.la, zaQ, zch, h.la]
 . rcases Nat.lt_or_ge i G.length with hl | hl
   . rw [zas (by rw [h.lv]; exact hl)] at hg
     rw [zaM (by have := ((h.row i hl).lt g hg).2; omega)]; exact h.tv i g hl hg
   have : i = G.length := by omega
   subst this; rw [<- h.lv, zaQ] at hg; simp [Value.ownBlock] at hg
 rcases Nat.lt_or_ge i G.length with hl | hl
 . rw [zdI hl] at hj
   have := h.wf i j hl hj; omega
 have : i = G.length := by omega
 subst this; simp [toOf] at hj
theorem KUpd.push (tag : Nat -> Nat) (w : World) (o : Obj) (c : Nat) : KUpd tag (zaR tag w.heap.size c) w (w.alloc o) :=
 have hb := (Below.refl w.heap.size w).alloc (Nat.le_refl _) o
 ⟨hb.os, hb.tape, hb.output, hb.size, fun b hx => zaM (by omega), fun b hx _ => hb.block b hx⟩
theorem zbv {α : Type} {l : List α} {i : Nat} {x d : α} (h : i < l.length) : (l.set i x).getD i d = x := by
 rw [zLf, List.getElem?_set_self h]; rfl
theorem zbb {α : Type} {l : List α} {i j : Nat} {x d : α} (h : i ≠ j) : (l.set i x).getD j d = l.getD j d := by
 rw [zLf, List.getElem?_set_ne h, <- zLf]
theorem zf3 {G : List Knot} {f : Knot -> Knot} {i j : Nat} (h : i ≠ j) : toOf (G.modify i f) j = toOf G j := by unfold toOf; rw [List.getElem?_modify]; simp [h]
theorem zdF {G : List Knot} {f : Knot -> Knot} (hf : ∀ k, (f k).place = k.place) (i j : Nat) : zao (G.modify i f) j = zao G j := by
 unfold zao; rw [List.getElem?_modify]; cases G[j]? <;> simp; split <;> simp [hf]
theorem ziZ {G : List Knot} {f : Knot -> Knot} (hf : ∀ k, (f k).fin = k.fin) (i j : Nat) : za7 (G.modify i f) j = za7 G j := by
 unfold za7; rw [List.getElem?_modify]; cases G[j]? <;> simp; split <;> simp [hf]
theorem zd7 {G : List Knot} {i : Nat} {l : List Nat} (h : i < G.length) : toOf (G.modify i (zeL l)) i = toOf G i ++ l := by
 unfold toOf; rw [List.getElem?_modify, zLe h]; simp [zeL]
theorem KAt.link {w w2 : World} {tag : Nat -> Nat} {adr : List Nat} {vs : List Value} {G : List Knot} {seen : Nat -> Bool} (h : KAt w tag adr vs G seen) (i : Nat) (hi : i < G.length) (l : List Nat) (hl : ∀ j ∈ l, j < G.length)
 (o : Obj) (v' : Value) (hrow : w2.ownsRow 0 141 1 v' ((toOf G i).length + l.length) ((toOf G i).map (fun j => zaj (adr.getD j 0)) ++ l.map fun j => zaj (adr.getD j 0)))
 (hg : (w.alloc o).grownBy w2 (vs.getD i undef).ownBlock) (hb : v'.ownBlock = (vs.getD i undef).ownBlock \/ v'.ownBlock = some (w.alloc o).heap.size) :
 ∃ tag', KAt (w2.setCell ⟨adr.getD i 0, 0, none⟩ v') tag' adr (vs.set i v') (G.modify i (zeL l)) seen /\ KUpd tag tag' w (w2.setCell ⟨adr.getD i 0, 0, none⟩ v') := by
 have hB := (Below.refl w.heap.size w).alloc (Nat.le_refl _) o; have h1 := h.below hB; have hai := zaa (h.cell i hi); have hkeep : ∀ b, b < w.heap.size -> tag b ≠ 10 + 2 * i -> tag b ≠ 11 + 2 * i -> (w2.setCell ⟨adr.getD i 0, 0, none⟩ v').heap[b]? = w.heap[b]? := by
  intro b hbs h10 h11; rw [zaf _ _ _ _ (fun e => h10 (by rw [show b = adr.getD i 0 from e]; exact h.ta i hi))]; exact (hg.block b (zLd hbs hB.size) (fun e => h11 (h.tv i b hi e.symm))).trans (hB.block b hbs)
 have hsz : w.heap.size + 1 <= w2.heap.size := by have := hg.size; simpa using this
 have hv2 : ∀ g, v'.ownBlock = some g -> g < w2.heap.size /\ (tag g = 11 + 2 * i /\ g < w.heap.size \/ g = w.heap.size + 1) := by
  intro g hgv; refine ⟨(hrow.lt g hgv).2, ?_⟩
  rcases hb with e | e
  . rw [hgv] at e
    have := ((h.row i hi).lt g e.symm).2; exact .inl ⟨h.tv i g hi e.symm, this⟩
  rw [hgv] at e; cases e; exact .inr (by simp)
 refine ⟨zaR tag (w.heap.size + 1) (11 + 2 * i), ⟨?_, ?_, ?_, ?_, ?_, ?_, ?_⟩, ?_⟩
 . simpa using h.la
 . simpa using h.lv
 . intro j hj
   have hj' : j < G.length := by simpa using hj
   rw [zdF (f := zeL l) (fun _ => rfl), ziZ (f := zeL l) (fun _ => rfl)]; by_cases e : i = j
   . subst e
     rw [zbv (by rw [h.lv]; exact hi)]; have hc : w2.heap[adr.getD i 0]? = some (.cells #[vs.getD i undef, .int .i64 (zao G i), .bool (za7 G i), .bool (seen i)] 143 (0, 0)) :=
      (hg.block _ (zLd hai hB.size) (fun e => by have := h.tv i _ hi e.symm; rw [h.ta i hi] at this; omega)).trans ((hB.block _ hai).trans (h.cell i hi))
     rw [zac _ _ _ _ _ _ _ hc]; rfl
   rw [zbb e, hkeep _ (zaa (h.cell j hj')) (by rw [h.ta j hj']; omega) (by rw [h.ta j hj']; omega)]
   exact h.cell j hj'
 . intro j hj
   have hj' : j < G.length := by simpa using hj
   by_cases e : i = j
   . subst e
     rw [zbv (by rw [h.lv]; exact hi), zd7 hi, List.length_append, List.map_append]; refine zaI hrow fun g hgv => ?_; rw [zaf _ _ _ _ (by
      intro e2; have e3 : g = adr.getD i 0 := e2
      rcases (hv2 g hgv).2 with ⟨h1, _⟩ | h1
      . rw [e3, h.ta i hi] at h1; omega
      omega)]
   rw [zbb e, zf3 e]
   exact zaI (h.row j hj') fun g hgv => hkeep g ((h.row j hj').lt g hgv).2 (by rw [h.tv j g hj' hgv]; omega) (by rw [h.tv j g hj' hgv]; omega)
 . intro j hj
   have hj' : j < G.length := by simpa using hj
   rw [zaM (by have := zaa (h.cell j hj'); omega)]; exact h.ta j hj'
 . intro j g hj hgv
   have hj' : j < G.length := by simpa using hj
   by_cases e : i = j
   . subst e
     rw [zbv (by rw [h.lv]; exact hi)] at hgv
     rcases (hv2 g hgv).2 with ⟨h1, h2⟩ | h1
     . rw [zaM (by omega)]; exact h1
     rw [h1, zch]
   rw [zbb e] at hgv
   rw [zaM (by have := ((h.row j hj').lt g hgv).2; omega)]; exact h.tv j g hj' hgv
 . intro a b ha hb'
   have ha' : a < G.length := by simpa using ha
   simp only [List.length_modify]; by_cases e : i = a
   . subst e
     rw [zd7 hi, List.mem_append] at hb'
     rcases hb' with hb' | hb'
     . exact h.wf i b hi hb'
     exact hl b hb'
   rw [zf3 e] at hb'
   exact h.wf a b ha' hb'
 refine ⟨hg.os.trans hB.os, hg.tape.trans hB.tape, hg.output.trans hB.output, by simp; omega, fun b hbs => zaM (by omega), fun b hbs ht => hkeep b hbs (by omega) (by omega)⟩
end
section
open Go.RowKit Go.Lib
abbrev W64 : Nat := 18446744073709551616
def setV (s : Set2) : Value := .agg #[.int .u64 s.1, .int .u64 s.2]
def Set2.Ok (s : Set2) : Prop := s.1 < W64 /\ s.2 < W64
def zcN (w : World) (b : Nat) (s : Set2) : Prop := w.heap[b]? = some (.cells #[.int .u64 s.1, .int .u64 s.2] 147 (0, 0))
theorem zcN.cells {w : World} {b : Nat} {s : Set2} (h : zcN w b s) : w.cell? ⟨b, 0, none⟩ = some (.int .u64 s.1) /\ w.cell? ⟨b, 1, none⟩ = some (.int .u64 s.2) := by
 have c0 := zab w b 0 _ _ _ h; have c1 := zab w b 1 _ _ _ h; simp only [zLa, zLb, zLc] at c0 c1; exact ⟨c0, c1⟩
theorem zeI (a b : Nat) (ha : a < W64) (hb : b < W64) : bits .or .u64 (a : Int) (b : Int) = ((a ||| b : Nat) : Int) := bits_or_u64_nat a b ha hb
theorem zgE (a k : Nat) (ha : a < W64) (hk : k < 64) : bits .or .u64 (a : Int) ((2 : Int) ^ k) = ((a ||| 2 ^ k : Nat) : Int) := by
 rw [<- zeI a (2 ^ k) ha (Nat.pow_lt_pow_right (by decide) hk)]; push_cast; rfl
theorem zgm (k : Nat) (hk : k < 64) : 2 ^ k < W64 := Nat.pow_lt_pow_right (by decide) hk
theorem zhp (k : Nat) (hk : k < 64) : IntKind.u64.wrap ((2 : Int) ^ k) = ((2 ^ k : Nat) : Int) := by
 have h := zgm k hk; rw [IntKind.wrap_u64, show ((2 : Int) ^ k) = ((2 ^ k : Nat) : Int) by push_cast; rfl]; generalize (2 : Nat) ^ k = p at h; unfold W64 at h; omega
theorem zhB {s : Set2} {n : Nat} (h : s.Ok) (hn : n < 128) : (s.add n).Ok := by
 unfold Set2.add; split
 . exact ⟨Nat.or_lt_two_pow (n := 64) h.1 (zgm n (by omega)), h.2⟩
 exact ⟨h.1, Nat.or_lt_two_pow (n := 64) h.2 (zgm (n - 64) (by omega))⟩
def AddO (b n : Nat) (s : Set2) (w : World) (e : Ending) (w' : World) : Prop := e = .returned (.tuple #[]) /\ zcN w' b (s.add n) /\ w.grownBy w' (some b)
theorem zfo (b n : Nat) (s : Set2) (w : World) (h : zcN w b s) (hs : s.Ok) (hn : n < 128) :
 Calls Tryz.prog 62 #[.pointer (some ⟨b, 0, none⟩), .int .i64 n] w (AddO b n s w) := by
 have H := hid h; have hl := zaa h; obtain ⟨c0, c1⟩ := h.cells; have f0 := zae w b 0 _ _ h; have f1 := zae w b 1 _ _ h; clear h; by_cases h64 : n < 64
 . have hz : (n : Int) < 64 := by omega
   have e1 : (n : Int) / 64 = 0 := by omega
   have e2 : (n : Int) % 64 = (n : Int) := by omega
   have e3 := zhp n h64; have e4 := zgE s.1 n hs.1 h64; have hadd : s.add n = (s.1 ||| 2 ^ n, s.2) := by unfold Set2.add; rw [if_pos h64]
   have HA := hid hadd; clear hadd; go_enter Tryz.func62, Tryz.ntmps62
   go_region
   all_goals (go_end0; exact ⟨rfl, by rw [HA.out]; exact zac w b 0 _ _ _ _ H.out, zal (zce w b 0 _) 1⟩)
 have e1 : (n : Int) / 64 = 1 := by omega
 obtain ⟨k, hk⟩ : ∃ k, k = n - 64 := ⟨_, rfl⟩; have e2 : (n : Int) % 64 = (k : Int) := by omega
 have hk64 : k < 64 := by omega
 have e3 := zhp k hk64; have e4 := zgE s.2 k hs.2 hk64; have hadd : s.add n = (s.1, s.2 ||| 2 ^ k) := by unfold Set2.add; rw [if_neg h64, hk]
 have HA := hid hadd; have hkz : (k : Int) < 64 := by omega
 clear hadd hk; go_enter Tryz.func62, Tryz.ntmps62
 go_region
 all_goals (go_end0; exact ⟨rfl, by rw [HA.out]; exact zac w b 1 _ _ _ _ H.out, zal (zce w b 1 _) 1⟩)
theorem has_bit (a k : Nat) (ha : a < W64) (hk : k < 64) : (bits .and .u64 ((a : Int) / (2 : Int) ^ k) 1 == 1) = a.testBit k := by
 have h1 : ((a : Int) / (2 : Int) ^ k) = ((a / 2 ^ k : Nat) : Int) := by push_cast; rfl
 have hb : bits .and .u64 ((a / 2 ^ k : Nat) : Int) ((1 : Nat) : Int) = (((a / 2 ^ k) &&& 1 : Nat) : Int) := bits_and_u64_nat _ _ (Nat.lt_of_le_of_lt (Nat.div_le_self _ _) ha) (by decide); rw [h1, show (1 : Int) = ((1 : Nat) : Int) from rfl, hb, Nat.and_one_is_mod, Nat.testBit_eq_decide_div_mod_eq]; rw [Bool.eq_iff_iff]; simp; omega
theorem zhC (n : Nat) (s : Set2) (w : World) (hs : s.Ok) (hn : n < 128) :
 Calls Tryz.prog 63 #[setV s, .int .i64 n] w fun e w' => e = .returned (.bool (s.has n)) /\ Below w.heap.size w w' := by
 unfold setV; have HB := hid ((Below.refl w.heap.size w).alloc (Nat.le_refl _) (.cells #[.int .u64 s.1, .int .u64 s.2] 147)); by_cases h64 : n < 64
 . have hz : (n : Int) < 64 := by omega
   have e1 : (n : Int) / 64 = 0 := by omega
   have e2 : (n : Int) % 64 = (n : Int) := by omega
   have hadd : s.has n = s.1.testBit n := by unfold Set2.has; rw [if_pos h64]
   have e3 := has_bit s.1 n hs.1 h64; rw [hadd]; clear hadd; go_enter Tryz.func63, Tryz.ntmps63; go_wp2; go_ret; exact ⟨rfl, HB.out⟩
 obtain ⟨k, hk⟩ : ∃ k, k = n - 64 := ⟨_, rfl⟩
 have e1 : (n : Int) / 64 = 1 := by omega
 have e2 : (n : Int) % 64 = (k : Int) := by omega
 have hz : (k : Int) < 64 := by omega
 have hadd : s.has n = s.2.testBit k := by unfold Set2.has; rw [if_neg h64, hk]
 have e3 := has_bit s.2 k hs.2 (by omega); rw [hadd]; clear hadd hk; go_enter Tryz.func63, Tryz.ntmps63; go_wp2; go_ret; exact ⟨rfl, HB.out⟩
theorem zi7 (s o : Set2) (w : World) (hs : s.Ok) (ho : o.Ok) :
 Calls Tryz.prog 59 #[setV s, setV o] w fun e w' => e = .returned (setV (s.or o)) /\ Below w.heap.size w w' := by
 unfold setV Set2.or; have e0 := zeI s.1 o.1 hs.1 ho.1; have e1 := zeI s.2 o.2 hs.2 ho.2; go_enter Tryz.func59, Tryz.ntmps59; go_wp2; refine bodyPost_ret (v := .agg #[.int .u64 ((s.1 ||| o.1 : Nat) : Int), .int .u64 ((s.2 ||| o.2 : Nat) : Int)]) (by simp [results, Tryz.results59, go_sem]) rfl ⟨rfl, ?_⟩; exact (((Below.refl _ w).alloc (Nat.le_refl _) _).alloc (by simp) _).alloc (by simp; omega) _
theorem eq_set (a b c d : Int) (w : World) : (Op.equalIn 10000 147 (.agg #[.int .u64 a, .int .u64 b]) (.agg #[.int .u64 c, .int .u64 d])).run Tryz.prog w = .ok (a == c && b == d) w := by
 have u3 := Tryz.underlying145; have a3 := Tryz.isAgg145; have z3 := Tryz.sizeOf145; rw [show (10000 : Nat) = 9999 + 1 from rfl, Op.equalIn]; simp only [Sem.run_bind, run_underlying Tryz.underlying147, Result.andThen_ok]; simp only [Std.Legacy.Range.forIn_eq_forIn_range', Std.Legacy.Range.size, Nat.sub_zero, Nat.add_sub_cancel, Nat.div_one, List.range'_succ, List.range'_zero, List.forIn_cons, List.forIn_nil]; go_simp; by_cases h1 : a = c <;> by_cases h2 : b = d <;> simp [h1, h2]
theorem zdU (s : Set2) (w : World) :
 Calls Tryz.prog 64 #[setV s] w fun e w' => e = .returned (.bool (decide (s = (0, 0)))) /\ Below w.heap.size w w' := by
 have he : decide (s = (0, 0)) = (((s.1 : Int) == 0) && ((s.2 : Int) == 0)) := by
  rw [Bool.eq_iff_iff]; obtain ⟨a, b⟩ := s; simp
 rw [he]; unfold setV; have hq := eq_set s.1 s.2 0 0; go_enter Tryz.func64, Tryz.ntmps64; go_wp2; go_ret; exact ⟨rfl, (Below.refl _ w).alloc (Nat.le_refl _) _⟩
end
end Go.Proofs.YtghpmhllpaheiaaGreatDoor
