/-
  Part of the proof: Class, Row. No condition beyond those in the statements.
-/
import Derived.Test.YtghpmhllpaheiaaGreatDoorL03
import Derived.Test.YtghpmhllpaheiaaGreatDoorL12
set_option linter.unusedVariables false
set_option linter.unusedSimpArgs false
set_option maxRecDepth 100000
set_option maxHeartbeats 4000000
namespace Go.Proofs.YtghpmhllpaheiaaGreatDoor
section
open Go.RowKit Go.Lib
theorem edge' (bp : Nat) (s : ByteArray) (p : Nat) (w : World) (h : PS bp s p w) :
 Calls Tryz.prog 165 #[.pointer (some ⟨bp, 0, none⟩)] w (Out bp s w (fun c v _ => v = .int .i32 c) (zhN s p)) :=
 edge_any bp s p w h fun w hw => zhh bp s p w hw
structure CK (bp : Nat) (s : ByteArray) (w : World) (l : List (Int × Int)) (q : Nat) (sl : Value) (wr : World) : Prop where
 cls : zbq wr sl l
 fresh : ∀ g, sl.ownBlock = some g -> w.heap.size <= g
 nil : l = [] -> sl = .slice none 0 0
 ps : PS bp s q wr
 grown : w.grownBy wr (some bp)
theorem CK.below {bp : Nat} {s : ByteArray} {w : World} {l : List (Int × Int)} {q : Nat} {sl : Value} {wr w' : World} (h : CK bp s w l q sl wr) (hb : Below wr.heap.size wr w') : CK bp s w l q sl w' :=
 ⟨zjr h.cls hb, h.fresh, h.nil, h.ps.below hb, zad h.grown (zah hb _)⟩
theorem CK.next {bp : Nat} {s : ByteArray} {w : World} {l : List (Int × Int)} {q q' : Nat} {sl : Value} {wr w' : World} (h : CK bp s w l q sl wr) (hbp : bp < w.heap.size) (hg : wr.grownBy w' (some bp)) (hp : PS bp s q' w') : CK bp s w l q' sl w' :=
 ⟨zaI h.cls (fun g hgb => hg.block g (h.cls.lt g hgb).2 (by have := h.fresh g hgb; intro e; cases e; omega)), h.fresh, h.nil, hp, zad h.grown hg⟩
theorem CK.alloc {bp : Nat} {s : ByteArray} {w : World} {l : List (Int × Int)} {q : Nat} {sl : Value} {wr : World} (h : CK bp s w l q sl wr) (o : Obj) : CK bp s w l q sl (wr.alloc o) :=
 h.below ((Below.refl _ wr).alloc (Nat.le_refl _) o)
theorem zcZ {a b w : World} {r : Option Nat} {bp : Nat} (hg : a.grownBy b r) (hr : ∀ g, r = some g -> w.heap.size <= g) (hs : w.heap.size <= a.heap.size) (h : w.grownBy a (some bp)) : w.grownBy b (some bp) :=
 ⟨hg.os.trans h.os, hg.tape.trans h.tape, hg.output.trans h.output, Nat.le_trans h.size hg.size, fun k hk hkb => (hg.block k (zLd hk hs) (fun e => by have := hr k e.symm; omega)).trans (h.block k hk hkb)⟩
theorem PS.apart {bp : Nat} {s : ByteArray} {p : Nat} {a b : World} {r : Option Nat} (h : PS bp s p a) (hg : a.grownBy b r) (hr : ∀ g, r = some g -> bp < g) : PS bp s p b :=
 ⟨(hg.block bp h.lt (fun e => by have := hr bp e.symm; omega)).trans h.at', zfl h.tabs fun x hx => World.cell?_of_block (w := a) (hg.block x.block (by have := h.lt; have := h.glob; omega) (fun e => by have := hr _ e.symm; have := h.glob; omega)), h.glob, h.size, h.le⟩
theorem CK.append {bp : Nat} {s : ByteArray} {w : World} {l : List (Int × Int)} {q : Nat} {sl v' : Value} {wr w' : World} {x1 x2 : Int} (h : CK bp s w l q sl wr) (hbp : bp < w.heap.size)
 (hrow : w'.ownsRow 0 210 2 v' (l.length + 1) (flat l ++ [.int .i32 x1, .int .i32 x2])) (hg : wr.grownBy w' sl.ownBlock) (hb : v'.ownBlock = sl.ownBlock \/ v'.ownBlock = some wr.heap.size) : CK bp s w (l ++ [(x1, x2)]) q v' w' :=
 ⟨zdp hrow, zc1 hb h.fresh h.grown.size, fun e => absurd e (by simp), h.ps.apart hg (fun g hgg => by have := h.fresh g hgg; omega), zcZ hg h.fresh h.grown.size h.grown⟩
theorem CK.lt {bp : Nat} {s : ByteArray} {w : World} {l : List (Int × Int)} {q : Nat} {sl : Value} {wr : World} (h : CK bp s w l q sl wr) : ∀ g, sl.ownBlock = some g -> g < wr.heap.size := fun g hg => (h.cls.lt g hg).2
theorem CK.set {bp : Nat} {s : ByteArray} {w : World} {l : List (Int × Int)} {q : Nat} {sl : Value} {wr : World} (h : CK bp s w l q sl wr) {B : Nat} (hB : ∀ g, sl.ownBlock = some g -> g ≠ B) (hw : w.heap.size <= B) (hbp : bp < w.heap.size) (o : Nat) (v : Value) : CK bp s w l q sl (wr.setCell ⟨B, o, none⟩ v) :=
 have hg := zag wr B o v
 ⟨zaI h.cls (fun g hgb => hg.block g (h.lt g hgb) (fun e => hB g hgb (by cases e; rfl))), h.fresh, h.nil, h.ps.apart hg (fun g e => by cases e; omega), zcZ hg (fun g e => by cases e; exact hw) h.grown.size h.grown⟩
theorem zfu {a b : World} {B : Nat} {o : Obj} (h : a.heap[B]? = some o) (hb : Below a.heap.size a b) : b.heap[B]? = some o := zi8 hb B o h
theorem zcv {a b : World} {B bp : Nat} {o : Obj} (h : a.heap[B]? = some o) (hg : a.grownBy b (some bp)) (hne : B ≠ bp) : b.heap[B]? = some o := (hg.block B (zaa h) (fun e => hne (by cases e; rfl))).trans h
theorem zbE {s : ByteArray} {p : Nat} {c : Int} (h : zbp s p = .ok c) (h0 : 0 <= c) (h1 : c < 128) : zem s p = .ok (c, p + 1) := by
 rw [zem, h]; have : (Utf8.decode s p).2 = 1 := by
  rcases zfc h with hd | ⟨hd1, hd2, hd3⟩
  . omega
  obtain ⟨x, kk, e, hh⟩ := zcd s p hd1 hd2
  rw [e] at hd3 ⊢; simp only at hd3 ⊢; omega
 simp [this]; omega
theorem zg3 (s : ByteArray) (f p : Nat) (l : List (Int × Int)) : zbW s (f + 1) p l =
 if l = [] then
  match zeG s p with
  | .error e => .error e
  | .ok (x, q) => zbW s f q (l ++ [x])
 else
  match zbp s p with
  | .error e => .error e
  | .ok c =>
   if c = 93 then .ok (l, p) else
    match zeG s p with
    | .error e => .error e
    | .ok (x, q) => zbW s f q (l ++ [x]) := rfl
def ClsV (w : World) (l : List (Int × Int)) (v : Value) (w' : World) : Prop := zar (fun g => w.heap.size <= g) w' (.cls l) v
theorem class_any (bp : Nat) (s : ByteArray) (p k : Nat) (w : World) (h : PS bp s p w) (hs : s.size <= 60) :
 Calls Tryz.prog 141 #[.pointer (some ⟨bp, 0, none⟩), .int .i64 k] w (Out bp s w (ClsV w) (zdn s p k)) := by
 have H := hid h; have hbp := h.lt; have hle := h.le; cases hx : zbp s p with
 | error e =>
  have HC : Hid (zdn s p k = .error e) := hid (by rw [zdn, hx]); have hP := zcy bp s p w e h hx; clear h hx; go_enter Tryz.func141, Tryz.ntmps141; go_wp2_with (first | (go_at_call 98; refine hP.mono ?_; rintro e w1 ⟨rfl, hb1⟩)); refine ⟨rfl, ?_⟩; rw [HC.out]; exact ⟨rfl, zah hb1 _⟩
 | ok c0 =>
  have hP := zbH bp s p w c0 h hx; obtain ⟨a1, a2, a3⟩ := zf7 hx; obtain ⟨p0, hp0⟩ : ∃ p0, p0 = if c0 = 94 then p + 1 else p := ⟨_, rfl⟩
  have hdec : c0 = 94 -> zem s p = .ok (94, p + 1) := by
   rintro rfl; rw [zem, hx]; obtain ⟨b1, b2, b3⟩ := a3 (by omega); have : (Utf8.decode s p).2 = 1 := by
    have hd := zfc hx
    rcases hd with hd | ⟨hd1, hd2, hd3⟩
    . omega
    obtain ⟨x, kk, e, hh⟩ := zcd s p hd1 hd2
    rw [e] at hd3 ⊢; simp only at hd3 ⊢; omega
   simp [this]
  have hp0le : p0 <= s.size := by
   rw [hp0]; split
   . exact (a3 (by omega)).1
   exact hle
  have HC : Hid (zdn s p k = match zbW s (s.size + 2) p0 [] with
   | .error e => .error e
   | .ok (l, q) => if c0 = 94 then (if zev l = [] then .error (3, k) else .ok (zev l, q + 1)) else .ok (l, q + 1)) := hid (by rw [zdn, hx, hp0]; rfl)
  have HD := hid hdec; have HP0 := hid hp0; clear hdec hp0 h hx a3; go_enter Tryz.func141, Tryz.ntmps141; have START : Hid (∀ w1, Below w.heap.size w w1 -> PS bp s p w1) := hid fun w1 hb => H.out.below hb; have hcut : ((c0 == 94) = true /\ c0 = 94) \/ ((c0 == 94) = false /\ ¬ c0 = 94) := by
   by_cases h : c0 = 94
   . exact .inl ⟨by simp [h], h⟩
   exact .inr ⟨by simp [h], h⟩
  rcases hcut with ⟨hz, h94⟩ | ⟨hz, h94⟩
  focus
   go_wp2_with (first | (go_at_call 98; refine hP.mono ?_; rintro e w1 ⟨rfl, hb1⟩; have hps1 := hid (START.out _ hb1)) | (go_at_call 99; refine (zcM bp s p _ 94 (p + 1) hps1.out (HD.out h94)).mono ?_; rintro e w2 ⟨rfl, hps2, hg2⟩)); have hp0' := HP0.out; rw [if_pos h94] at hp0'; rw [<- hp0'] at hps2; have hgr2 := zad (zah hb1 _) hg2; clear hp0' hg2; have HK0 := hid (⟨zdj _ _ _, fun g hg => (by simp [Value.ownBlock] at hg), fun _ => rfl, hps2, hgr2⟩ : CK bp s w [] p0 (.slice none 0 0) w2); clear hps2 hgr2 hps1 hb1; clear START hP
  rotate_left
  focus
   go_wp2_with (first | (go_at_call 98; refine hP.mono ?_; rintro e w2 ⟨rfl, hb1⟩)); have hps2 := START.out _ hb1; have hp0' := HP0.out; rw [if_neg h94] at hp0'; rw [<- hp0'] at hps2; have HK0 := hid (⟨zdj _ _ _, fun g hg => (by simp [Value.ownBlock] at hg), fun _ => rfl, hps2, zah hb1 _⟩ : CK bp s w [] p0 (.slice none 0 0) w2); clear hps2 hb1 hp0'; clear START hP
  all_goals
   clear HD HP0 a1 a2 hz; generalize hR : zbW s (s.size + 2) p0 [] = R at *; go_loopg [6] (s.size + 2) (fun gh sl wr => ∃ (l : List (Int × Int)) (q f : Nat), f = gh /\ f + l.length = s.size + 2 /\ l.length <= q /\ (∀ x ∈ l, 0 <= x.1 /\ x.1 <= 1114111 /\ 0 <= x.2 /\ x.2 <= 1114111 /\ x.1 <= x.2) /\ R = zbW s f q l /\ CK bp s w l q sl wr)
   case atStart => exact ⟨[], p0, s.size + 2, rfl, rfl, Nat.zero_le _, fun x hx => absurd hx List.not_mem_nil, hR.symm, HK0.out⟩
   case round =>
    obtain ⟨l, q, f, hfg, hfl, hlq, hin, hloop, hK⟩ := hrel; have HK := hid hK; have hqs := hK.ps.le; have HIN := hid hin; have HFG := hid hfg; obtain ⟨g, hg⟩ : ∃ g, f = g + 1 := ⟨f - 1, by omega⟩; have HGF := hid hg; rw [hg, zg3] at hloop; clear hfg hg hin; by_cases hit : l = [] \/ ∃ c, zbp s q = .ok c /\ c ≠ 93
    . have hl2 : Hid (R = match zeG s q with
       | .error e => .error e
       | .ok (x, q) => zbW s g q (l ++ [x])) := by
       refine hid ?_; rw [hloop]
       rcases hit with hl0 | ⟨c, hc, hc2⟩
       . rw [if_pos hl0]
       rw [hc]
       simp only [if_neg hc2, ite_self]
      clear hloop; have hlen : (l = [] /\ u6 = .slice none 0 0) \/ (l ≠ [] /\ (∃ c, zbp s q = .ok c /\ c ≠ 93) /\ ∃ g cap, u6 = .slice (some ⟨g, 0, none⟩) l.length cap /\ ((l.length : Int) == 0) = false) := by
       by_cases hl0 : l = []
       . exact .inl ⟨hl0, hK.nil hl0⟩
       refine .inr ⟨hl0, hit.resolve_left hl0, ?_⟩
       have hz := List.length_pos_iff.2 hl0
       rcases zaG hK.cls with ⟨_, h⟩ | ⟨g, cap, h, _⟩
       . omega
       exact ⟨g, cap, h, by simp; omega⟩
      clear hit
      rcases hlen with ⟨hl0, hu6⟩ | ⟨hl0, ⟨c1, hc1, hc2⟩, gg, cap, hu6, hz⟩
      focus
       subst hu6; generalize wr = w2 at *; have HK2 := HK; clear HK hK; obtain ⟨d0, d1, f1⟩ := HK2.out.ps.cells; go_wp2_with (fail)
      rotate_left
      focus
       subst hu6; have hcmp : (c1 != 93) = true := by simp [hc2]
       go_wp2_with (first | (go_at_call 98; refine (zbH bp s q _ c1 HK.out.ps hc1).mono ?_; rintro e w2 ⟨rfl, hb1⟩; have HK2 := hid (HK.out.below hb1); obtain ⟨d0, d1, f1⟩ := HK2.out.ps.cells)); clear hcmp hb1 HK hK hz
      all_goals
       clear d0 d1 f1; cases hi : zhN s q with
       | error e =>
        have hX : zdn s p k = .error e := by rw [HC.out, hl2.out, zeG, hi]
        refine (edge' bp s q _ HK2.out.ps).mono ?_; intro r w3 hr; rw [hi] at hr; obtain ⟨rfl, hg3⟩ := hr; refine ⟨rfl, ?_⟩; rw [hX]; exact ⟨rfl, zad HK2.out.grown hg3⟩
       | ok loq =>
        obtain ⟨lo, q1⟩ := loq; have HI := hid hi; refine (edge' bp s q _ HK2.out.ps).mono ?_; intro r w3 hr; rw [hi] at hr; obtain ⟨v, rfl, rfl, hp3, hg3⟩ := hr; have HK3 := hid (HK2.out.next hbp hg3 hp3); clear hp3 hg3 HK2 hi; go_wp2_with (fail); have HK4 := hid (HK3.out.alloc (.cells #[.int .i32 lo, .int .i32 lo] 210)); have hb4 := (zap w3 (.cells #[.int .i32 lo, .int .i32 lo] 210) w3.heap.size).trans (if_pos rfl); have hB4 := HK3.out.lt; have hBw : w.heap.size <= w3.heap.size := HK3.out.grown.size; clear HK3
        generalize w3.alloc (.cells #[.int .i32 lo, .int .i32 lo] 210) = w4 at *; generalize w3.heap.size = B at *; have hBp : B ≠ bp := by omega
        have HB4 := hid hB4; clear hB4; cases hpk : zbp s q1 with
        | error e =>
         have hX : zdn s p k = .error e := by rw [HC.out, hl2.out, zeG, HI.out]; simp only; rw [hpk]
         refine (zcy bp s q1 _ e HK4.out.ps hpk).mono ?_; rintro r w5 ⟨rfl, hb5⟩; refine ⟨rfl, ?_⟩; rw [hX]; exact ⟨rfl, zad HK4.out.grown (zah hb5 _)⟩
        | ok c2 =>
         have HPK := hid hpk; by_cases h45 : c2 = 45
         . subst h45
           have htk := hid (zbE hpk (by decide) (by decide)); clear hpk; refine (zbH bp s q1 _ 45 HK4.out.ps HPK.out).mono ?_; rintro r w5 ⟨rfl, hb5⟩; have HK5 := hid (HK4.out.below hb5); have hbk5 := zfu hb4 hb5; clear hb4 hb5 HK4; go_wp2_with (go_at_call 99; refine (zcM bp s q1 _ 45 (q1 + 1) HK5.out.ps htk.out).mono ?_; rintro e w6 ⟨rfl, hps6, hg6⟩); have HK6 := hid (HK5.out.next hbp hg6 hps6); have hbk6 := zcv hbk5 hg6 hBp; clear hbk5 hg6 hps6 HK5 htk; cases hi2 : zhN s (q1 + 1) with
           | error e =>
            have hX : zdn s p k = .error e := by rw [HC.out, hl2.out, zeG, HI.out]; simp only; rw [HPK.out]; simp only [if_pos]; rw [hi2]
            refine (edge' bp s (q1 + 1) _ HK6.out.ps).mono ?_; intro r w7 hr; rw [hi2] at hr; obtain ⟨rfl, hg7⟩ := hr; refine ⟨rfl, ?_⟩; rw [hX]; exact ⟨rfl, zad HK6.out.grown hg7⟩
           | ok hiq =>
            obtain ⟨hi, q2⟩ := hiq; have HI2 := hid hi2; refine (edge' bp s (q1 + 1) _ HK6.out.ps).mono ?_; intro r w7 hr; rw [hi2] at hr; obtain ⟨v, rfl, rfl, hp7, hg7⟩ := hr; have HK7 := hid (HK6.out.next hbp hg7 hp7); have hbk7 := zcv hbk6 hg7 hBp; clear hbk6 hp7 hg7 HK6 hi2; have HK8 := hid (HK7.out.set (fun g hg => Nat.ne_of_lt (HB4.out g hg)) hBw hbp 1 (.int .i32 hi)); have hbk8 := zac w7 B 1 (.int .i32 hi) _ _ _ hbk7; have hfr7 := zae w7 B 1 _ _ hbk7; have hc7 := zab w7 B 1 _ _ _ hbk7; have hc80 := zab _ B 0 _ _ _ hbk8
            have hc81 := zab _ B 1 _ _ _ hbk8; simp only [zLa] at hc7 hc80 hc81; clear hbk7; by_cases hlt : hi < lo
            . have hX : zdn s p k = .error (3, q) := by rw [HC.out, hl2.out, zeG, HI.out]; simp only; rw [HPK.out]; simp only [if_pos]; rw [HI2.out]; simp only [if_pos hlt]
              have HX := hid hX; clear hX; go_wp2_with (go_at_call 80; refine (zaU 3 q _).mono ?_; rintro e w' ⟨rfl, rfl⟩); refine ⟨rfl, ?_⟩; rw [HX.out]; exact ⟨rfl, HK8.out.grown⟩
            have hitem : zeG s q = .ok ((lo, hi), q2) := by rw [zeG, HI.out]; simp only; rw [HPK.out]; simp only [if_pos]; rw [HI2.out]; simp only [if_neg hlt]
            have hi3 := hid hitem; have hle2 := zkC hitem (by omega); simp only at hle2; clear hitem; go_wp2_with (at_builtin; refine zan _ rfl _ _ rfl zcG _ _ _ rfl (by exact (HK8.out.alloc _).cls) ⟨_, 0, none⟩ 1 1 [Value.int .i32 lo, Value.int .i32 hi] rfl rfl (zaD _ #[Value.int .i32 lo, Value.int .i32 hi] _ _ (by simp)) (by simp [Value.oneCell']) (by decide) (by omega) (by decide) ?_; intro v' w' hrow' hgr' hbl'); have HK9 := (HK8.out.alloc _).append hbp hrow' hgr' hbl'; go_roundg g
            case rel =>
             refine ⟨l ++ [(lo, hi)], q2, g, rfl, by have := HGF.out; have := HFG.out; simp; omega, by simp; omega, ?_, ?_, HK9⟩
             . intro x hx
               rcases List.mem_append.1 hx with hx | hx
               . exact HIN.out x hx
               have := List.mem_singleton.1 hx; subst this; simp only; omega
             . rw [hl2.out, hi3.out]
            all_goals (have := HGF.out; have := HFG.out; omega)
         have hX : zeG s q = .ok ((lo, lo), q1) := by rw [zeG, HI.out]; simp only; rw [hpk]; simp only [if_neg h45]
         have hi3 := hid hX; have hle2 := zkC hX (by omega); simp only at hle2; clear hX hpk; refine (zbH bp s q1 _ c2 HK4.out.ps HPK.out).mono ?_; rintro r w5 ⟨rfl, hb5⟩; have HK5 := hid (HK4.out.below hb5); have hbk5 := zfu hb4 hb5; have hc50 := zab w5 B 0 _ _ _ hbk5; have hc51 := zab w5 B 1 _ _ _ hbk5; simp only [zLa] at hc50 hc51; have hne45 : (c2 == 45) = false := by simp [h45]
         clear hb4 hb5 HK4 hbk5; go_wp2_with (at_builtin; refine zan _ rfl _ _ rfl zcG _ _ _ rfl (by exact (HK5.out.alloc _).cls) ⟨_, 0, none⟩ 1 1 [Value.int .i32 lo, Value.int .i32 lo] rfl rfl (zaD _ #[Value.int .i32 lo, Value.int .i32 lo] _ _ (by simp)) (by simp [Value.oneCell']) (by decide) (by omega) (by decide) ?_; intro v' w' hrow' hgr' hbl'); have HK9 := (HK5.out.alloc _).append hbp hrow' hgr' hbl'; go_roundg g
         case rel =>
          refine ⟨l ++ [(lo, lo)], q1, g, rfl, by have := HGF.out; have := HFG.out; simp; omega, by simp; omega, ?_, ?_, HK9⟩
          . intro x hx
            rcases List.mem_append.1 hx with hx | hx
            . exact HIN.out x hx
            have := List.mem_singleton.1 hx; subst this; simp only; omega
          . rw [hl2.out, hi3.out]
         all_goals (have := HGF.out; have := HFG.out; omega)
    have hl0 : l ≠ [] := fun e => hit (.inl e)
    obtain ⟨gg, cap, hu6, hz⟩ : ∃ g cap, u6 = .slice (some ⟨g, 0, none⟩) l.length cap /\ ((l.length : Int) == 0) = false := by
     have hz := List.length_pos_iff.2 hl0
     rcases zaG hK.cls with ⟨_, h⟩ | ⟨g, cap, h, _⟩
     . omega
     exact ⟨g, cap, h, by simp; omega⟩
    subst hu6; rw [if_neg hl0] at hloop; cases hpk : zbp s q with
    | error e =>
     have hX : Hid (zdn s p k = .error e) := hid (by rw [HC.out, hloop, hpk]); clear hloop; go_wp2_with (first | (go_at_call 98; refine (zcy bp s q _ e HK.out.ps hpk).mono ?_; rintro e w2 ⟨rfl, hb1⟩)); refine ⟨rfl, ?_⟩; rw [hX.out]; exact ⟨rfl, zad HK.out.grown (zah hb1 _)⟩
    | ok c1 =>
     have hc1 : c1 = 93 := by
      by_cases h : c1 = 93
      . exact h
      exact absurd (.inr ⟨c1, hpk, h⟩) hit
     subst hc1; have hR2 : R = .ok (l, q) := by rw [hloop, hpk]; rfl
     have htk := hid (zbE hpk (by decide) (by decide)); have HPK := hid hpk; have HR2 := hid hR2; clear hloop hpk hR2 hit hK; go_wp2_with (first | (go_at_call 98; refine (zbH bp s q _ 93 HK.out.ps HPK.out).mono ?_; rintro e w2 ⟨rfl, hb1⟩; have HK2 := hid (HK.out.below hb1)) | (go_at_call 99; refine (zcM bp s q _ 93 (q + 1) HK2.out.ps htk.out).mono ?_; rintro e w6 ⟨rfl, hps6, hg6⟩; have HK6 := hid (HK2.out.next hbp hg6 hps6)))
     first
     | (have hno : ¬ c0 = 94 := h94
        have hX := HC.out; rw [HR2.out] at hX; simp only [if_neg hno] at hX; have HX := hid hX; clear hX hno; go_ret; rw [HX.out]; exact ⟨_, rfl, by unfold ClsV; simp only [zar]; exact ⟨_, rfl, HK6.out.cls, HK6.out.fresh⟩, HK6.out.ps, HK6.out.grown⟩)
     | (have hX := HC.out
        rw [HR2.out] at hX; simp only [if_pos h94] at hX; have hgood := zhA l (fun x hx => (HIN.out x hx).2.2.2.2); refine (rest_any _ l _ HK6.out.cls (by omega) (fun x hx => by have := HIN.out x hx; omega) (fun x hx => (HIN.out x hx).2.2.2.2)).mono ?_; rintro r w7 ⟨v', rfl, hcls7, hf7, hb7⟩; have HP7 := hid (HK6.out.ps.below hb7); have HG7 := hid (zad HK6.out.grown (zah hb7 (some bp))); have HF7 : Hid (∀ g, v'.ownBlock = some g -> w.heap.size <= g) := hid fun g hg => Nat.le_trans HK6.out.grown.size (hf7 g hg); have hform := zaG hcls7
        have HC7 := hid hcls7; clear hcls7 hf7 hb7 HK6 hgood; by_cases hr0 : zev l = []
        . rw [if_pos hr0] at hX
          have HX := hid hX; clear hX; rw [hr0] at hform
          rcases hform with ⟨rfl, _⟩ | ⟨gx, capx, rfl, _⟩
          all_goals
           go_wp2_with (go_at_call 80; refine (zaU 3 k _).mono ?_; rintro e w' ⟨rfl, rfl⟩); refine ⟨rfl, ?_⟩; rw [HX.out]; exact ⟨rfl, HG7.out⟩
        rw [if_neg hr0] at hX
        have HX := hid hX; have hz7 := List.length_pos_iff.2 hr0; clear hX
        rcases hform with ⟨_, h⟩ | ⟨gx, capx, rfl, _⟩
        . omega
        have hzz : (((zev l).length : Int) == 0) = false := by simp; omega
        go_wp2; go_ret; rw [HX.out]; exact ⟨_, rfl, by unfold ClsV; simp only [zar]; exact ⟨_, rfl, HC7.out, HF7.out⟩, HP7.out, HG7.out⟩)
end
section
open Go.RowKit Go.Lib
abbrev Fr (W : Nat) : Nat -> Prop := fun g => W <= g
mutual
theorem zar.live {S : Nat -> Prop} {w : World} : ∀ (t : Tree) (v : Value), zar S w t v -> zar (fun g => S g /\ g < w.heap.size) w t v
 | .cls l, v, hv => by
  simp only [zar] at hv ⊢; obtain ⟨sl, h1, h2, h3⟩ := hv; exact ⟨sl, h1, h2, fun g hg => ⟨h3 g hg, (h2.lt g hg).2⟩⟩
 | .row l, v, hv => by
  simp only [zar] at hv ⊢; obtain ⟨sl, vs, h1, h2, h3, h4⟩ := hv; exact ⟨sl, vs, h1, h2, fun g hg => ⟨h3 g hg, (h2.lt g hg).2⟩, zaC.live l vs h4⟩
 | .either a b, v, hv => by
  simp only [zar] at hv ⊢; obtain ⟨va, vb, h1, h2, h3⟩ := hv; exact ⟨va, vb, h1, zar.live a va h2, zar.live b vb h3⟩
 | .rep t m o, v, hv => by
  simp only [zar] at hv ⊢; obtain ⟨vt, h1, h2⟩ := hv; exact ⟨vt, h1, zar.live t vt h2⟩
theorem zaC.live {S : Nat -> Prop} {w : World} : ∀ (l : List Tree) (vs : List Value), zaC S w l vs -> zaC (fun g => S g /\ g < w.heap.size) w l vs
 | [], vs, hv => by
  simp only [zaC] at hv ⊢; exact hv
 | t :: l, vs, hv => by
  simp only [zaC] at hv ⊢; obtain ⟨v, r, h1, h2, h3⟩ := hv; exact ⟨v, r, h1, zar.live t v h2, zaC.live l r h3⟩
end
theorem zar.weak {S T : Nat -> Prop} {w : World} {t : Tree} {v : Value} (h : zar S w t v) (hS : ∀ g, S g -> g < w.heap.size -> T g) : zar T w t v :=
 (h.live t v).ext (fun g hg => hS g hg.1 hg.2) (fun _ _ _ => rfl) t v
theorem zaC.weak {S T : Nat -> Prop} {w : World} {t : List Tree} {v : List Value} (h : zaC S w t v) (hS : ∀ g, S g -> g < w.heap.size -> T g) : zaC T w t v :=
 (h.live t v).ext (fun g hg => hS g hg.1 hg.2) (fun _ _ _ => rfl) t v
theorem zar.grown {W bp : Nat} {w w' : World} {t : Tree} {v : Value} (h : zar (Fr W) w t v) (hbp : bp < W) (hg : w.grownBy w' (some bp)) : zar (Fr W) w' t v :=
 h.ext (fun _ h => h) (fun g hS hlt => hg.block g hlt (fun e => by cases e; exact absurd hS (by omega))) t v
theorem zcU {S : Nat -> Prop} {w : World} {t : Tree} {v : Value} (m : Int) (o : Bool) (h : zar S w t v) : zar S w (.rep t m o) (.iface 206 (.agg #[v, .int .i64 m, .bool o])) := by
 simp only [zar]; exact ⟨_, rfl, h⟩
theorem zfe {S : Nat -> Prop} {w : World} {l : List Tree} {vs : List Value} {sl : Value} (h : w.ownsRow 0 138 1 sl l.length vs) (hs : ∀ g, sl.ownBlock = some g -> S g) (ht : zaC S w l vs) : zar S w (.row l) (.iface 202 sl) := by
 simp only [zar]; exact ⟨_, _, rfl, h, hs, ht⟩
theorem zfE {S : Nat -> Prop} {w : World} {l : List (Int × Int)} {sl : Value} (h : zbq w sl l) (hs : ∀ g, sl.ownBlock = some g -> S g) : zar S w (.cls l) (.iface 200 sl) := by
 simp only [zar]; exact ⟨_, rfl, h, hs⟩
theorem zio {S : Nat -> Prop} {w : World} {a b : Tree} {va vb : Value} (ha : zar S w a va) (hb : zar S w b vb) : zar S w (.either a b) (.iface 204 (.agg #[va, vb])) := by
 simp only [zar]; exact ⟨_, _, rfl, ha, hb⟩
theorem zgW {S : Nat -> Prop} {w : World} {t : Tree} {v : Value} {m : Int} {o : Bool} (h : zar S w (.rep t m o) (.iface 206 (.agg #[v, .int .i64 m, .bool o]))) : zar S w t v := by
 simp only [zar] at h; obtain ⟨vt, e, h⟩ := h; cases e; exact h
theorem zaC.rep {S : Nat -> Prop} {w : World} {t : Tree} {v : Value} (h : zar S w t v) : ∀ k, zaC S w (List.replicate k t) (List.replicate k v)
 | 0 => by simp only [List.replicate_zero, zaC]
 | k + 1 => by simp only [List.replicate_succ, zaC]; exact ⟨_, _, rfl, h, zaC.rep h k⟩
theorem set_last {α : Type} (k : Nat) (v u : α) : (List.replicate (k + 1) v).set k u = List.replicate k v ++ [u] := by
 rw [List.replicate_succ', List.set_append_right _ _ (by simp)]; simp
structure RK (F W : Nat) (l : List Tree) (vs : List Value) (sl : Value) (wr : World) : Prop where
 row : wr.ownsRow 0 138 1 sl l.length vs
 fresh : ∀ g, sl.ownBlock = some g -> F <= g
 trees : zaC (fun g => W <= g /\ sl.ownBlock ≠ some g) wr l vs
theorem RK.nil (F W : Nat) (wr : World) : RK F W [] [] (.slice none 0 0) wr :=
 ⟨zdj _ _ _, fun g h => by simp [Value.ownBlock] at h, by simp only [zaC]⟩
theorem RK.below {F W : Nat} {l : List Tree} {vs : List Value} {sl : Value} {wr w' : World} (h : RK F W l vs sl wr) (hb : Below wr.heap.size wr w') : RK F W l vs sl w' :=
 ⟨za6 h.row hb, h.fresh, h.trees.below hb⟩
theorem RK.alloc {F W : Nat} {l : List Tree} {vs : List Value} {sl : Value} {wr : World} (h : RK F W l vs sl wr) (o : Obj) : RK F W l vs sl (wr.alloc o) :=
 h.below ((Below.refl _ wr).alloc (Nat.le_refl _) o)
theorem RK.grown {F W bp : Nat} {l : List Tree} {vs : List Value} {sl : Value} {wr w' : World} (h : RK F W l vs sl wr) (hF : bp < F) (hW : bp < W) (hg : wr.grownBy w' (some bp)) : RK F W l vs sl w' :=
 ⟨zaI h.row (fun g hgb => hg.block g (h.row.lt g hgb).2 (fun e => by cases e; have := h.fresh _ hgb; omega)), h.fresh, h.trees.ext (fun _ h => h) (fun g hS hlt => hg.block g hlt (fun e => by cases e; have := hS.1; omega)) l vs⟩
theorem zar.notIn {W : Nat} {sl : Value} {wr : World} {t : Tree} {v : Value} (h : zar (fun g => W <= g /\ sl.ownBlock ≠ some g) wr t v) : zar (Fr W) wr t v :=
 h.weak fun g hg _ => hg.1
theorem RK.append {F W : Nat} {l : List Tree} {vs : List Value} {sl v' v : Value} {t : Tree} {wr w' : World} (h : RK F W l vs sl wr) (hF : F <= wr.heap.size) (ht : zar (fun g => W <= g /\ sl.ownBlock ≠ some g) wr t v)
 (hrow : w'.ownsRow 0 138 1 v' (l.length + 1) (vs ++ [v])) (hg : wr.grownBy w' sl.ownBlock) (hb : v'.ownBlock = sl.ownBlock \/ v'.ownBlock = some wr.heap.size) :
 RK F W (l ++ [t]) (vs ++ [v]) v' w' /\ zar (fun g => W <= g /\ v'.ownBlock ≠ some g) w' t v := by
 have hT : ∀ g, (W <= g /\ sl.ownBlock ≠ some g) /\ g < wr.heap.size -> W <= g /\ v'.ownBlock ≠ some g := by
  rintro g ⟨⟨h1, h2⟩, h3⟩; refine ⟨h1, ?_⟩
  rcases hb with e | e
  . rw [e]; exact h2
  rw [e]; intro e2; cases e2; omega
 have hU : ∀ g, (W <= g /\ sl.ownBlock ≠ some g) /\ g < wr.heap.size -> g < wr.heap.size -> w'.heap[g]? = wr.heap[g]? := fun g hs hlt => hg.block g hlt (fun e => hs.1.2 e.symm); have h2 := (ht.live t v).ext hT hU t v; refine ⟨⟨by simpa using hrow, zc1 hb h.fresh hF, ?_⟩, h2⟩; exact ((h.trees.live l vs).ext hT hU l vs).snoc h2
theorem zih : zcp Tryz.prog 202 138 1 16 :=
 zcp.of (z := .nilIface) Tryz.underlying202 (by kernel_rfl) rfl (by decide)
end
end Go.Proofs.YtghpmhllpaheiaaGreatDoor
