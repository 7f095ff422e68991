/-
  Part of the proof: Base, U8, Sl. No condition beyond those in the statements.
-/
import Derived.WalkKit
import Derived.ProofKit
import Derived.Handy
import Derived.Lib.Hide
import Derived.Deep.QuietTactic
import Derived.Deep.LoopGhost
import Derived.Deep.DeepFit
import Derived.BigQuiet
import Derived.WalkLawsBesides
import Derived.WalkSpells
import Derived.Test.YtghpmhllpaheiaaGreatDoorProg
set_option linter.unusedVariables false
set_option linter.unusedSimpArgs false
namespace Go.Proofs.YtghpmhllpaheiaaGreatDoor
section
open Go.RowKit
def Ext (w w' : World) : Prop := ∀ (b : Nat) (o : Obj), w.heap[b]? = some o -> w'.heap[b]? = some o
theorem zaa {w : World} {b : Nat} {o : Obj} (h : w.heap[b]? = some o) : b < w.heap.size := (Array.getElem?_eq_some_iff.1 h).1
theorem zi8 {w w' : World} (h : Below w.heap.size w w') : Ext w w' := fun b _o hb => (h.block b (zaa hb)).trans hb
theorem Ext.refl (w : World) : Ext w w := fun _ _ h => h
theorem Ext.trans {a b c : World} (h : Ext a b) (k : Ext b c) : Ext a c := fun x o hx => k x o (h x o hx)
theorem zap (w : World) (o : Obj) (k : Nat) : (w.alloc o).heap[k]? = if k = w.heap.size then some o else w.heap[k]? := by
 show (w.heap.push o)[k]? = _; rw [Array.getElem?_push]
theorem zaf (w : World) (a : Addr) (v : Value) (k : Nat) (hk : k ≠ a.block) : (w.setCell a v).heap[k]? = w.heap[k]? := Below.heap_setCell w a v k hk
theorem zac (w : World) (b o : Nat) (v : Value) (c : Array Value) (t : TypeId) (f : Nat × Nat) (h : w.heap[b]? = some (.cells c t f)) : (w.setCell ⟨b, o, none⟩ v).heap[b]? = some (.cells (c.setIfInBounds o v) t f) := by
 simp only [World.setCell, Array.getElem?_modify, h]; simp
theorem zab (w : World) (b o : Nat) (c : Array Value) (t : TypeId) (f : Nat × Nat) (h : w.heap[b]? = some (.cells c t f)) : w.cell? ⟨b, o, none⟩ = c[o]? := by
 simp only [World.cell?, h]; rfl
theorem zae (w : World) (b o : Nat) (c : Array Value) (t : TypeId) (h : w.heap[b]? = some (.cells c t (0, 0))) : w.frozen? ⟨b, o, none⟩ = false := by
 simp [World.frozen?, h]
theorem zad {a b c : World} {row : Option Nat} (h : a.grownBy b row) (k : b.grownBy c row) : a.grownBy c row :=
 ⟨k.os.trans h.os, k.tape.trans h.tape, k.output.trans h.output, Nat.le_trans h.size k.size, fun i hi hr => (k.block i (Nat.lt_of_lt_of_le hi h.size) hr).trans (h.block i hi hr)⟩
theorem zaZ (a : World) (row : Option Nat) : a.grownBy a row := ⟨rfl, rfl, rfl, Nat.le_refl _, fun _ _ _ => rfl⟩
theorem zah {a b : World} (h : Below a.heap.size a b) (row : Option Nat) : a.grownBy b row := ⟨h.os, h.tape, h.output, h.size, fun k hk _ => h.block k hk⟩
theorem zeB {a b : World} {n m : Nat} (h : Below m a b) (hn : n <= m) : Below n a b := h.mono hn
theorem lA {α : Type} {l : List α} {i : Nat} {a : α} : l.toArray.setIfInBounds i a = (l.set i a).toArray := List.setIfInBounds_toArray ..
theorem lB {α : Type} {l : List α} {a b : α} : (a :: l).set 0 b = b :: l := rfl
theorem lC {α : Type} {l : List α} {n : Nat} {a b : α} : (a :: l).set (n + 1) b = a :: l.set n b := rfl
theorem zLa {α : Type} {l : List α} {i : Nat} : l.toArray[i]? = l[i]? := List.getElem?_toArray
theorem zLb {α : Type} {a : α} {l : List α} : (a :: l)[0]? = some a := rfl
theorem zLc {α : Type} {a : α} {l : List α} {i : Nat} : (a :: l)[i + 1]? = l[i]? := rfl
theorem zLd {a b c : Nat} (h : a < b) (k : b <= c) : a < c := Nat.lt_of_lt_of_le h k
theorem zLe {α : Type} {l : List α} {i : Nat} (h : i < l.length) : l[i]? = some l[i] := List.getElem?_eq_getElem h
theorem zLf {α : Type} {l : List α} {i : Nat} {a : α} : l.getD i a = l[i]?.getD a := List.getD_eq_getElem?_getD
end
section
open Go.RowKit
def runeLen (r : Int) : Int := if r < 0 then -1 else if r <= 127 then 1 else if r <= 2047 then 2 else if 55296 <= r /\ r <= 57343 then -1 else if r <= 65535 then 3 else if r <= 1114111 then 4 else -1
theorem zjR (r : Int) (w : World) : Calls Tryz.prog 75 #[.int .i32 r] w fun e w' => e = .returned (.int .i64 (runeLen r)) /\ w = w' := by
 unfold runeLen; by_cases h1 : r < 0
 . rw [if_pos h1]
   go_enter Tryz.func75, Tryz.ntmps75; go_wp2; go_ret; exact ⟨rfl, rfl⟩
 rw [if_neg h1]; by_cases h2 : r <= 127
 . rw [if_pos h2]
   go_enter Tryz.func75, Tryz.ntmps75; go_wp2; go_ret; exact ⟨rfl, rfl⟩
 rw [if_neg h2]; by_cases h3 : r <= 2047
 . rw [if_pos h3]
   go_enter Tryz.func75, Tryz.ntmps75; go_wp2; go_ret; exact ⟨rfl, rfl⟩
 rw [if_neg h3]; by_cases h4 : 55296 <= r
 . by_cases h5 : r <= 57343
   . rw [if_pos ⟨h4, h5⟩]
     go_enter Tryz.func75, Tryz.ntmps75; go_wp2; go_ret; exact ⟨rfl, rfl⟩
   rw [if_neg (by omega)]; by_cases h6 : r <= 65535
   . rw [if_pos h6]
     go_enter Tryz.func75, Tryz.ntmps75; go_wp2; go_ret; exact ⟨rfl, rfl⟩
   rw [if_neg h6]; by_cases h7 : r <= 1114111
   . rw [if_pos h7]
     go_enter Tryz.func75, Tryz.ntmps75; go_wp2; go_ret; exact ⟨rfl, rfl⟩
   rw [if_neg h7]; go_enter Tryz.func75, Tryz.ntmps75; go_wp2; go_ret; exact ⟨rfl, rfl⟩
 rw [if_neg (by omega), if_pos (by omega)]
 go_enter Tryz.func75, Tryz.ntmps75; go_wp2; go_ret; exact ⟨rfl, rfl⟩
def validRune (r : Int) : Bool := decide ((0 <= r /\ r < 55296) \/ (57343 < r /\ r <= 1114111))
theorem zeX (r : Int) (w : World) : Calls Tryz.prog 85 #[.int .i32 r] w fun e w' => e = .returned (.bool (validRune r)) /\ w = w' := by
 by_cases h1 : 0 <= r
 . by_cases h2 : r < 55296
   . have e : validRune r = true := by unfold validRune; simp; omega
     rw [e]; go_enter Tryz.func85, Tryz.ntmps85; go_wp2; go_ret; exact ⟨rfl, rfl⟩
   by_cases h3 : 57343 < r
   . by_cases h4 : r <= 1114111
     . have e : validRune r = true := by unfold validRune; simp; omega
       rw [e]; go_enter Tryz.func85, Tryz.ntmps85; go_wp2; go_ret; exact ⟨rfl, rfl⟩
     have e : validRune r = false := by unfold validRune; simp; omega
     rw [e]; go_enter Tryz.func85, Tryz.ntmps85; go_wp2; go_ret; exact ⟨rfl, rfl⟩
   have e : validRune r = false := by unfold validRune; simp; omega
   rw [e]; go_enter Tryz.func85, Tryz.ntmps85; go_wp2; go_ret; exact ⟨rfl, rfl⟩
 have e : validRune r = false := by unfold validRune; simp; omega
 rw [e]; go_enter Tryz.func85, Tryz.ntmps85; go_wp2; go_ret; exact ⟨rfl, rfl⟩
end
section
open Go.RowKit
structure zcp (P : Program) (t e : TypeId) (size bytes : Nat) : Prop where
 und : P.underlying t = some (.slice e)
 info : ∃ i z, P.info? e = some i /\ i.zero = some z /\ i.size = size /\ i.bytes = bytes /\ z.cells.size = size
 pos : 0 < size
theorem zcp.of {P : Program} {t e : TypeId} {size bytes : Nat} {z : Value} (h : P.underlying t = some (.slice e)) (hi : (P.info? e).map (fun i => (i.zero, i.size, i.bytes)) = some (some z, size, bytes)) (hz : z.cells.size = size) (hp : 0 < size) : zcp P t e size bytes := by
 obtain ⟨i, h1, h2, h3, h4⟩ := info_parts hi; exact ⟨h, ⟨i, z, h1, h2, h3, h4, hz⟩, hp⟩
section
variable {P : Program} (w : World)
theorem zdy {t e : TypeId} {size bytes : Nat} (E : zcp P t e size bytes) (ty : TypeId) (v : Value) (n : Nat) (xs : List Value) (hown : w.ownsRow 0 e size v n xs)
 (a : Addr) (m c : Nat) (news : List Value) (hl : news.length = m * size) (hnews : ∀ j u, news[j]? = some u -> w.cell? (a.add j) = some u) (h1 : ∀ u ∈ news, u.oneCell' = true)
 (hm : 0 < m) (hb : n + m <= 1000000000) (hbytes : bytes <= 1000) :
 ∃ v' w', (Builtin.append_ #[t, t] ty #[v, .slice (some a) m c]).run P w = .ok v' w' /\ w'.ownsRow 0 e size v' (n + m) (xs ++ news) /\ w.grownBy w' v.ownBlock /\ (v'.ownBlock = v.ownBlock \/ v'.ownBlock = some w.heap.size) := by
 obtain ⟨ht, ⟨i, z, hi, hz, rfl, rfl, hzs⟩, hpos⟩ := E; have hbb : (n + m) * i.bytes <= 140737488355328 := by
  have := Nat.mul_le_mul hb hbytes; omega
 have h63 : n + m <= maxLen := by unfold maxLen; omega
 have hlen : (xs ++ news).length = (n + m) * i.size := by rw [List.length_append, hown.1, hl, Nat.add_mul]
 have grown : ∀ (old : Nat), old < n + m ->
  (w.drew.alloc (.cells (xs.toArray ++ news.toArray ++ Builtin.zeroCells z.cells (grownCap w (n + m) old e - (n + m))) e)).ownsRow 0 e i.size
   (.slice (some ⟨w.heap.size, 0, none⟩) (n + m) (grownCap w (n + m) old e)) (n + m) (xs ++ news) := by
  intro old ho; refine ⟨hlen, .inr ⟨w.heap.size, _, _, rfl, Nat.zero_le _, heap_alloc_new w.drew _, grownCap_ge w (n + m) old e, grownCap_le_maxLen w (n + m) old e h63, ?_, ?_⟩⟩
  . have hge := grownCap_ge w (n + m) old e
    simp only [Array.size_append, List.size_toArray, size_zeroCells, hzs, hown.1, hl, <- Nat.add_mul]; congr 1; omega
  simp only [Array.toList_append, List.append_assoc]
  rw [<- List.append_assoc, <- hlen]; exact List.take_left
 rcases hown.2 with ⟨rfl, rfl⟩ | ⟨g, cap, cur, rfl, hbg, hg, hnc, hcm, hcs, htake⟩
 . have hx : xs = [] := List.eq_nil_of_length_eq_zero (by simpa using hown.1)
   subst hx; have hr := run_append_nil (P := P) w t ty e i z ht hi hz a m c news hl hnews hm (by omega) (by simp only [Nat.zero_add] at hbb; omega); have hgr := grown 0 (by omega); simp only [Nat.zero_add, List.nil_append, Array.empty_append] at hgr ⊢; exact ⟨_, _, hr, hgr, ⟨rfl, rfl, rfl, by simp, fun k hk _ => heap_alloc_old w.drew _ hk⟩, .inr rfl⟩
 by_cases hroom : n + m <= cap
 . have hfit : n * i.size + news.length <= cur.size := by rw [hl, hcs, <- Nat.add_mul]; exact Nat.mul_le_mul_right _ hroom
   have hr := run_append_room (P := P) w t ty e i ht hi g n cap cur hg a m c news hl hnews h1 hroom hfit; refine ⟨_, _, hr, ⟨hlen, .inr ⟨g, cap, _, rfl, hbg, setRow_heap w g cur _ e _ hg, hroom, hcm, ?_, ?_⟩⟩, ⟨rfl, rfl, rfl, by simp, fun k _ hk => setRow_other w g k _ (fun e => hk (by simp [Value.ownBlock, e]))⟩, .inl rfl⟩
   . simp only [List.size_toArray, List.length_append, List.length_take, List.length_drop, Array.length_toList]
     omega
   rw [htake, <- hlen]
   exact List.take_left
 have holds : ∀ j u, xs[j]? = some u -> w.cell? ((⟨g, 0, none⟩ : Addr).add j) = some u := hown.cells (g := g) rfl
 have hr := run_append_grow (P := P) w t ty e i z ht hi hz ⟨g, 0, none⟩ n cap xs hown.1 holds a m c news hl hnews (by omega) (by omega) (growslice_fits (by omega) hbb); exact ⟨_, _, hr, grown cap (by omega), ⟨rfl, rfl, rfl, by simp, fun k hk _ => heap_alloc_old w.drew _ hk⟩, .inr rfl⟩
theorem zan {ops : Array Oper} {rest : List Oper} {o : Oper} {a : Act} {Q : Exit -> Act -> World -> Prop} (hgd : o.guard = none) (s x : Operand) {t e : TypeId} {size bytes : Nat}
 (ho : o.op = .call { callee := .builtin .append, args := #[s, x], argTypes := #[t, t] }) (E : zcp P t e size bytes)
 (v : Value) (n : Nat) (xs : List Value) (hs : a.eval s = v) (hown : w.ownsRow 0 e size v n xs)
 (ad : Addr) (m c : Nat) (news : List Value) (hx : a.eval x = .slice (some ad) m c) (hl : news.length = m * size) (hnews : ∀ j u, news[j]? = some u -> w.cell? (ad.add j) = some u) (h1 : ∀ u ∈ news, u.oneCell' = true)
 (hm : 0 < m) (hb : n + m <= 1000000000) (hbytes : bytes <= 1000)
 (h : ∀ v' w', w'.ownsRow 0 e size v' (n + m) (xs ++ news) -> w.grownBy w' v.ownBlock -> (v'.ownBlock = v.ownBlock \/ v'.ownBlock = some w.heap.size) -> wpList P ops Q rest (a.put o.dst v') w') : wpList P ops Q (o :: rest) a w :=
 wpList_plain hgd fun K hK => by
  obtain ⟨v', w', hr, h2, h3, h4⟩ := zdy (P := P) w E o.type v n xs hown ad m c news hl hnews h1 hm hb hbytes; unfold Oper.wp execOp; simp only [ho, resolve, invoke, builtin, Sem.run_bind, Sem.run_pure, Result.andThen_ok, List.map_toArray, List.map_cons, List.map_nil, hs, hx, hr]; exact hK _ _ (h v' w' h2 h3 h4)
end
theorem zaD (w : World) (c : Array Value) (t : TypeId) (b : Nat) (hb : b = w.heap.size) : ∀ (j : Nat) (u : Value), c.toList[j]? = some u -> (w.alloc (.cells c t)).cell? ((⟨b, 0, none⟩ : Addr).add j) = some u := by
 intro j u h; subst hb; have e : (⟨w.heap.size, 0, none⟩ : Addr).add j = ⟨w.heap.size, j, none⟩ := by unfold Addr.add; split <;> simp_all
 rw [e, zab (w.alloc (.cells c t)) w.heap.size j c t (0, 0) (by rw [zap, if_pos rfl])]; simpa using h
theorem zc1 {v v' : Value} {n B : Nat} (h : v'.ownBlock = v.ownBlock \/ v'.ownBlock = some n) (hv : ∀ g, v.ownBlock = some g -> B <= g) (hn : B <= n) : ∀ g, v'.ownBlock = some g -> B <= g := by
 intro g hg
 rcases h with h | h
 . exact hv g (by rw [<- h]; exact hg)
 rw [h] at hg; cases hg; exact hn
theorem zcc {B : Nat} {a w w' : World} {v : Value} (h : Below B a w) (hg : w.grownBy w' v.ownBlock) (hB : B <= w.heap.size) (hv : ∀ g, v.ownBlock = some g -> B <= g) : Below B a w' :=
 h.grown hg hB hv
theorem zeu {w w' : World} {v : Value} {b : Nat} {o : Obj} (hg : w.grownBy w' v.ownBlock) (h : w.heap[b]? = some o) (hv : v.ownBlock ≠ some b) : w'.heap[b]? = some o :=
 (hg.block b (zaa h) (fun e => hv e.symm)).trans h
theorem zax {w : World} {e : TypeId} {size : Nat} {g n cap : Nat} {xs : List Value} (h : w.ownsRow 0 e size (.slice (some ⟨g, 0, none⟩) n cap) n xs) (j : Nat) (u : Value) (hu : xs[j]? = some u) : w.cell? ⟨g, j, none⟩ = some u := by
 have := h.cells (g := g) rfl j u hu; have e : (⟨g, 0, none⟩ : Addr).add j = ⟨g, j, none⟩ := by unfold Addr.add; split <;> simp_all
 rwa [e] at this
theorem zaG {w : World} {e : TypeId} {size : Nat} {v : Value} {n : Nat} {xs : List Value} (h : w.ownsRow 0 e size v n xs) : (v = .slice none 0 0 /\ n = 0) \/ ∃ g cap, v = .slice (some ⟨g, 0, none⟩) n cap /\ n <= cap /\ g < w.heap.size := by
 rcases h.2 with h | ⟨g, cap, cur, h1, _, h2, h3, _⟩
 . exact .inl h
 exact .inr ⟨g, cap, h1, h3, zaa h2⟩
theorem zaI {w w' : World} {e : TypeId} {size : Nat} {v : Value} {n : Nat} {xs : List Value} (h : w.ownsRow 0 e size v n xs) (hx : ∀ g, v.ownBlock = some g -> w'.heap[g]? = w.heap[g]?) : w'.ownsRow 0 e size v n xs := by
 refine ⟨h.1, ?_⟩
 rcases h.2 with hn | ⟨g, cap, cur, rfl, hb, hgg, rest⟩
 . exact .inl hn
 exact .inr ⟨g, cap, cur, rfl, hb, by rw [hx g rfl]; exact hgg, rest⟩
theorem za6 {w w' : World} {e : TypeId} {size : Nat} {v : Value} {n : Nat} {xs : List Value} (h : w.ownsRow 0 e size v n xs) (hb : Below w.heap.size w w') : w'.ownsRow 0 e size v n xs :=
 zaI h fun g hg => hb.block g (h.lt g hg).2
theorem zdj (w : World) (e : TypeId) (size : Nat) : w.ownsRow 0 e size (.slice none 0 0) 0 [] := World.ownsRow_nil w 0 e size
end
end Go.Proofs.YtghpmhllpaheiaaGreatDoor
