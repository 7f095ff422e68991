/-
  Part of the proof: Sc1, Buf1, Sc2, Sc3, Sc4, Sc5. No condition beyond those in the statements.
-/
import Derived.ArgAppend
import Derived.Laws.IdiomCopy
import Derived.Deep.RegionHeld3
import Derived.Laws.IdiomStrings
import Derived.Test.YtghpmhllpaheiaaGreatDoorL04
import Derived.Test.YtghpmhllpaheiaaGreatDoorL07
import Derived.Test.YtghpmhllpaheiaaGreatDoorL01
import Derived.Test.YtghpmhllpaheiaaGreatDoorL20
set_option linter.unusedVariables false
set_option linter.unusedSimpArgs false
set_option maxRecDepth 100000
set_option maxHeartbeats 40000000
namespace Go.Proofs.YtghpmhllpaheiaaGreatDoor
section
open Go.RowKit Go.Lib
def zjk (w : World) (v : Value) (s : ByteArray) : Prop :=
 (v = .slice none 0 0 /\ s.size = 0) \/ ∃ g off cap, v = .slice (some ⟨g, off, none⟩) s.size cap /\ s.size <= cap /\ g < w.heap.size /\ ∀ i, i < s.size -> w.cell? ⟨g, off + i, none⟩ = some (.int .u8 (byt s i))
theorem zjk.kept {w w' : World} {v : Value} {s : ByteArray} (h : zjk w v s) (hs : w.heap.size <= w'.heap.size) (hx : ∀ g, v.ownBlock = some g -> w'.heap[g]? = w.heap[g]?) : zjk w' v s := by
 rcases h with h | ⟨g, off, cap, rfl, h1, h2, h3⟩
 . exact .inl h
 refine .inr ⟨g, off, cap, rfl, h1, zLd h2 hs, fun i hi => ?_⟩
 rw [<- h3 i hi]; unfold World.cell?; rw [hx g rfl]
def ScAt (w : World) (bs bt : Nat) (rd : Value) (C : Nat) (bv why err : Value) (at' line col : Int) : Prop :=
 w.heap[bs]? = some (.cells #[zaj bt, rd, .int .i64 C, bv, why, err, .int .i64 at', .int .i64 line, .int .i64 col] 95 (0, 0))
def zbe (w : World) (ba : Nat) (x : Run) : Prop := w.heap[ba]? = some (.cells #[.int .i64 x.set, .int .i64 x.alive, .int .i64 x.long, .int .i64 x.rule] 97 (0, 0))
theorem zbe.cells {w : World} {ba : Nat} {x : Run} (h : zbe w ba x) : w.cell? ⟨ba, 0, none⟩ = some (.int .i64 x.set) /\ w.cell? ⟨ba, 1, none⟩ = some (.int .i64 x.alive) /\ w.cell? ⟨ba, 2, none⟩ = some (.int .i64 x.long) /\ w.cell? ⟨ba, 3, none⟩ = some (.int .i64 x.rule) := by
 have c0 := zab w ba 0 _ _ _ h; have c1 := zab w ba 1 _ _ _ h; have c2 := zab w ba 2 _ _ _ h; have c3 := zab w ba 3 _ _ _ h; simp only [zLa, zLc, zLb] at c0 c1 c2 c3; exact ⟨c0, c1, c2, c3⟩
theorem zbY.grown {B : Nat} {w w' : World} {bt : Nat} {T : Tab} {bc cc br cr bg cg ba : Nat} (h : zbY B w bt T bc cc br cr bg cg) (hg : w.grownBy w' (some ba)) (hB : B <= ba) (hw : B <= w.heap.size) : zbY B w' bt T bc cc br cr bg cg :=
 h.below ⟨hg.os, hg.tape, hg.output, hg.size, fun b hb => hg.block b (by omega) (fun e => by cases e; omega)⟩
theorem hd_of {w : World} {g off : Nat} {s : ByteArray} {p : Nat} (h : ∀ i, i < s.size -> w.cell? ⟨g, off + i, none⟩ = some (.int .u8 (byt s i))) (hp : p < s.size) (hg : g < w.heap.size) : Hd3 w g (off + p) (s.size - p) (byt s p) (byt s (p + 1)) (byt s (p + 2)) :=
 ⟨h p hp, fun h1 => by rw [Nat.add_assoc]; exact h (p + 1) (by omega), fun h2 => by rw [Nat.add_assoc]; exact h (p + 2) (by omega), zbR _ _, zbR _ _, zbR _ _⟩
end
section
open Go.RowKit Go.Lib
def zdQ (w : World) (v : Value) (s : ByteArray) : Prop :=
 (v = .slice none 0 0 /\ s.size = 0) \/ ∃ g off cap cells, v = .slice (some ⟨g, off, none⟩) s.size cap /\ s.size <= cap /\ w.heap[g]? = some (.cells cells 5 (0, 0)) /\ off + cap <= cells.size /\ ∀ i, i < s.size -> cells[off + i]? = some (.int .u8 (byt s i))
theorem zdQ.is {w : World} {v : Value} {s : ByteArray} (h : zdQ w v s) : zjk w v s := by
 rcases h with h | ⟨g, off, cap, cells, h1, h2, h3, h4, h5⟩
 . exact .inl h
 exact .inr ⟨g, off, cap, h1, h2, zaa h3, fun i hi => by rw [zab w g (off + i) _ _ _ h3]; exact h5 i hi⟩
theorem zdQ.kept {w w' : World} {v : Value} {s : ByteArray} (h : zdQ w v s) (hx : ∀ g, v.ownBlock = some g -> w'.heap[g]? = w.heap[g]?) : zdQ w' v s := by
 rcases h with h | ⟨g, off, cap, cells, rfl, h2, h3, h4, h5⟩
 . exact .inl h
 exact .inr ⟨g, off, cap, cells, rfl, h2, (hx g rfl).trans h3, h4, h5⟩
theorem zdQ.lt {w : World} {v : Value} {s : ByteArray} (h : zdQ w v s) : ∀ g, v.ownBlock = some g -> g < w.heap.size := by
 rcases h with ⟨rfl, _⟩ | ⟨g, off, cap, cells, rfl, h2, h3, h4, h5⟩
 . intro g hg; cases hg
 intro g' hg; cases hg; exact zaa h3
def zbd (t : ByteArray) : List Value := t.data.toList.map fun b => Value.int .u8 b.toNat
theorem za3 (t : ByteArray) : (zbd t).length = t.size := by simp [zbd]
theorem zcV (t : ByteArray) (j : Nat) (h : j < t.size) : (zbd t)[j]? = some (.int .u8 (byt t j)) := by
 unfold zbd byt; rw [List.getElem?_map]; simp only [ByteArray.get!]; have h' : j < t.data.toList.length := by simpa using h
 rw [zLe h', getElem!_pos _ _ (by simpa using h)]; simp
theorem byt_app (s t : ByteArray) (i : Nat) : byt (s ++ t) i = if i < s.size then byt s i else byt t (i - s.size) := by
 unfold byt; simp only [ByteArray.get!, ByteArray.data_append]; rw [getElem!_def, getElem!_def, getElem!_def, Array.getElem?_append]; have hz : s.data.size = s.size := rfl; rw [hz]; by_cases h : i < s.size
 . rw [if_pos h, if_pos h]
 rw [if_neg h, if_neg h]
theorem zb5 (s t : ByteArray) : (s ++ t).size = s.size + t.size := ByteArray.size_append
theorem zkj : zcp Tryz.prog 55 5 1 1 := zcp.of (z := .int .u8 0) Tryz.underlying55 (by kernel_rfl) rfl (by decide)
theorem zg5 (w : World) (ty : TypeId) (v : Value) (s t : ByteArray) (h : zdQ w v s) (ad : Addr) (c : Nat) (hnews : ∀ j, j < t.size -> w.cell? (ad.add j) = some (.int .u8 (byt t j))) (hb : s.size + t.size <= 1000000000) :
 ∃ v' w', (Builtin.append_ #[55, 55] ty #[v, .slice (some ad) t.size c]).run Tryz.prog w = .ok v' w' /\ zdQ w' v' (s ++ t) /\ w.grownBy w' v.ownBlock /\ (∀ g, v'.ownBlock = some g -> v.ownBlock = some g \/ w.heap.size <= g) := by
 obtain ⟨ht, ⟨i, z, hi, hz, hs1, hs2, hzs⟩, hpos⟩ := zkj; have hnews' : ∀ (j : Nat) (u : Value), (zbd t)[j]? = some u -> w.cell? (ad.add j) = some u := fun j u hu => by
  have hj : j < t.size := by rw [<- za3]; exact (List.getElem?_eq_some_iff.1 hu).1
  rw [zcV t j hj] at hu; cases hu; exact hnews j hj
 have h1 : ∀ u ∈ zbd t, u.oneCell' = true := fun u hu => by
  obtain ⟨x, _, rfl⟩ := List.mem_map.1 hu; rfl
 have fresh : ∀ (v' : Value) (w' : World), w'.ownsRow w.heap.size 5 1 v' (s.size + t.size) (zbd s ++ zbd t) -> w.grownBy w' none -> 0 < s.size + t.size -> zdQ w' v' (s ++ t) /\ w.grownBy w' v.ownBlock /\ (∀ g, v'.ownBlock = some g -> v.ownBlock = some g \/ w.heap.size <= g) := by
  intro v' w' hrow hgr hp
  rcases hrow.2 with ⟨_, h0⟩ | ⟨g, cap, cur, rfl, hbase, hg, hn, hmx, hcs, htake⟩
  . omega
  refine ⟨.inr ⟨g, 0, cap, cur, by rw [zb5], by rw [zb5]; exact hn, hg, by omega, fun i hi => ?_⟩, ⟨hgr.os, hgr.tape, hgr.output, hgr.size, fun k hk _ => hgr.block k hk (by simp)⟩, fun g' hg' => by cases hg'; exact .inr hbase⟩
  rw [zb5] at hi; have e : cur.toList[i]? = (zbd s ++ zbd t)[i]? := by
   rw [<- htake, List.getElem?_take, if_pos (by omega)]
  rw [Nat.zero_add, <- Array.getElem?_toList, e, byt_app]; by_cases his : i < s.size
  . rw [if_pos his, List.getElem?_append_left (by rw [za3]; exact his), zcV s i his]
  rw [if_neg his, List.getElem?_append_right (by rw [za3]; omega), za3, zcV t _ (by omega)]
 have lt' : (zbd t).length = t.size * 1 := by rw [za3, Nat.mul_one]
 have ls' : (zbd s).length = s.size * 1 := by rw [za3, Nat.mul_one]
 have hmx : s.size + t.size <= maxLen := by unfold maxLen; omega
 rcases h with ⟨rfl, h0⟩ | ⟨g, off, cap, cells, rfl, hle, hg, hcs, hcells⟩
 . rcases Nat.eq_zero_or_pos t.size with ht0 | ht0
   . refine ⟨.slice none 0 0, w, ?_, .inl ⟨rfl, by rw [zb5]; omega⟩, zaZ _ _, fun g hg => .inl hg⟩
     have hf := run_firstCells_some (P := Tryz.prog) w 1 0 ad 0 c [] rfl (by simp); rw [ht0]; simp [Builtin.append_, run_underlying ht, sizeOf, typeInfo, hi, Builtin.lenOf, hs1, hf, Result.andThen]
   have es : zbd s = [] := List.eq_nil_of_length_eq_zero (by rw [za3, h0])
   obtain ⟨v', w', hr, h2, h3, h4⟩ := zdy (P := Tryz.prog) w zkj ty (.slice none 0 0) 0 [] (World.ownsRow_nil w 0 _ _) ad t.size c (zbd t) lt' hnews' h1 ht0 (by omega) (by decide); have hown : w'.ownsRow w.heap.size 5 1 v' (s.size + t.size) (zbd s ++ zbd t) := by
    rw [h0, es]; refine ⟨h2.1, ?_⟩
    rcases h2.2 with ⟨e, h0'⟩ | ⟨g, cap, cur, rfl, hbase, hg, hn, hmx', hcs, htake⟩
    . omega
    refine .inr ⟨g, cap, cur, rfl, ?_, hg, hn, hmx', hcs, htake⟩
    rcases h4 with e | e
    . cases e
    cases e; exact Nat.le_refl _
   have hgn : w.grownBy w' none := h3; obtain ⟨f1, f2, f3⟩ := fresh v' w' hown hgn (by omega); rw [h0] at *; exact ⟨v', w', hr, f1, f2, f3⟩
 have hcb : ∀ j, w.cell? ⟨g, j, none⟩ = cells[j]? := fun j => zab w g j _ _ _ hg
 by_cases hroom : s.size + t.size <= cap
 . have hsome : ∀ j, j < (zbd t).length -> (w.cell? ⟨g, off + s.size * i.size + j, none⟩).isSome = true := fun j hj => by
    rw [hcb, hs1]; rw [za3] at hj; rw [Array.getElem?_eq_getElem (by omega)]; rfl
   have hfr : ∀ j, j < (zbd t).length -> w.frozen? ⟨g, off + s.size * i.size + j, none⟩ = false := fun j hj => zae w g _ _ _ hg; have hr := run_append_room_cells (P := Tryz.prog) w 55 ty 5 i ht hi g off s.size cap ad t.size c (zbd t) (by rw [hs1]; exact lt') hnews' h1 hroom hsome hfr; obtain ⟨⟨c', k1, k2, k3⟩, k4⟩ := zdd g (zbd t) (off + s.size * i.size) w cells 5 hg; refine ⟨_, _, hr, .inr ⟨g, off, cap, c', by rw [zb5], by rw [zb5]; exact hroom, k1, by omega, fun q hq => ?_⟩, k4, fun g' hg' => .inl hg'⟩; rw [zb5] at hq; rw [byt_app]
   by_cases his : q < s.size
   . rw [if_pos his, k3 (off + q) (by rw [hs1]; omega)]
     exact hcells q his
   rw [if_neg his]
   have hin := World.cell?_setCells_in g (zbd t) (off + s.size * i.size) w hsome (q - s.size) (by rw [za3]; omega); rw [zab _ g _ _ _ _ k1, show off + s.size * i.size + (q - s.size) = off + q by rw [hs1]; omega] at hin; rw [hin]; have e := zcV t (q - s.size) (by omega); rw [zLe (by rw [za3]; omega)] at e; exact e
 obtain ⟨v', w', hr, r1, r2⟩ := run_append_arg_grows (P := Tryz.prog) w 55 ty 5 i z 1 1 ht hi hz hs1 hs2 hzs (by decide) ⟨g, off, none⟩ s.size cap (zbd s) ls' (fun j u hu => by
  have hj : j < s.size := by rw [<- za3]; exact (List.getElem?_eq_some_iff.1 hu).1
  rw [zcV s j hj] at hu; cases hu; rw [Addr.add_lit, hcb]; exact hcells j hj) ad t.size c (zbd t) lt' hnews' (by omega) hmx (by omega)
 obtain ⟨f1, f2, f3⟩ := fresh v' w' r1 r2 (by omega); exact ⟨v', w', hr, f1, f2, f3⟩
end
section
open Go.RowKit Go.Lib
theorem zcu {w w' w2 : World} {ba : Nat} (h : w.grownBy w' (some ba)) (hb : Below w'.heap.size w' w2) : w.grownBy w2 (some ba) :=
 ⟨hb.os.trans h.os, hb.tape.trans h.tape, hb.output.trans h.output, Nat.le_trans h.size hb.size, fun b hlt hne => (hb.block b (zLd hlt h.size)).trans (h.block b hlt hne)⟩
structure RnSt (T : Tab) (s : ByteArray) (F : Nat) (x0 : Run) (w : World) (ba : Nat) (x : Run) (wr : World) : Prop where
 at' : zbe wr ba x
 grown : w.grownBy wr (some ba)
 rest : ∃ f, s.size < f + x.alive /\ runT T s f x = runT T s F x0
 le : x.alive <= s.size
 set : x.set < T.goes.length
theorem ext_size (s : ByteArray) (p : Nat) (hp : p <= s.size) : (s.extract p s.size).size = s.size - p := by simp
theorem zdr (s : ByteArray) (p g off cap : Nat) (w : World) (hp : p < s.size) (hT : Tabs w) (hb : ∀ i, i < s.size -> w.cell? ⟨g, off + i, none⟩ = some (.int .u8 (byt s i))) :
 Calls Tryz.prog 40 #[.slice (some ⟨g, off + p, none⟩) (s.size - p) (cap - p)] w fun e w' => e = .returned (.tuple #[.int .i32 (Utf8.decode s p).1, .int .i64 (Utf8.decode s p).2]) /\ Below w.heap.size w w' := by
 have he := ext_size s p (by omega); have h := zgY (s.extract p s.size) g (off + p) (cap - p) w hT (fun j hj => by
  rw [get_ext]; have := hb (p + j) (by omega); rw [Nat.add_assoc]; exact this)
 rw [he] at h; have e : Lib.decodeGo (s.extract p s.size) = Utf8.decode s p := by
  unfold Lib.decodeGo; rw [if_neg (by omega), zcX]
 rw [e] at h; exact h
theorem zdq {T : Tab} {s : ByteArray} {F : Nat} {x0 x : Run} (h : ∃ f, s.size < f + x.alive /\ runT T s f x = runT T s F x0) (hg : zaT T s x.set x.alive = false) : runT T s F x0 = x := by
 obtain ⟨f, _, h2⟩ := h; rw [<- h2, zgK f hg]
theorem zkB {T : Tab} {R set : Nat} {c : Int} (hT : WfT T R) (h : 0 <= zbQ T set c) : (zbQ T set c).toNat < T.goes.length := by
 unfold zbQ at h ⊢; obtain ⟨h1, h2⟩ := zhZ h; have h3 := (hT.cells _ h1 ((T.goes.getD set []).getD (zbL T.cuts c) (-1)) (by
  rw [zLf (l := T.goes.getD set []), zLe h2]; exact List.getElem_mem _)).2
 omega
theorem zbe.set2 {w : World} {ba : Nat} {x : Run} (h : zbe w ba x) (a b : Nat) : zbe ((w.setCell ⟨ba, 0, none⟩ (.int .i64 a)).setCell ⟨ba, 1, none⟩ (.int .i64 b)) ba ⟨a, b, x.long, x.rule⟩ := by
 unfold zbe; rw [zac _ ba 1 _ _ _ _ (zac w ba 0 _ _ _ _ h)]; rfl
theorem zbe.set4 {w : World} {ba : Nat} {x : Run} (h : zbe w ba x) (b : Nat) (r : Int) : zbe ((w.setCell ⟨ba, 2, none⟩ (.int .i64 b)).setCell ⟨ba, 3, none⟩ (.int .i64 r)) ba ⟨x.set, x.alive, b, r⟩ := by
 unfold zbe; rw [zac _ ba 3 _ _ _ _ (zac w ba 2 _ _ _ _ h)]; rfl
theorem run_any (T : Tab) (R : Nat) (hT : WfT T R) (s : ByteArray) (hs : s.size < 1000000) (F : Nat) (x0 : Run) (w : World) (B bs bt bc cc br cr bg cg ba : Nat) (rd bv why err : Value) (C : Nat) (at' line col : Int)
 (hSc : ScAt w bs bt rd C bv why err at' line col) (hBuf : zjk w bv s) (hTab : zbY B w bt T bc cc br cr bg cg) (hTabs : Tabs w) (hG : Glob <= B) (hB : B <= w.heap.size) (hba : B <= ba) (hne : bs ≠ ba) (hbv : bv.ownBlock ≠ some ba)
 (hR : zbe w ba x0) (hle : x0.alive <= s.size) (hset : x0.set < T.goes.length) (hF : s.size < F + x0.alive) :
 Calls Tryz.prog 35 #[zaj bs, zaj ba] w fun e w' => e = .returned (.tuple #[]) /\ zbe w' ba (runT T s F x0) /\ w.grownBy w' (some ba) := by
 have hst : RnSt T s F x0 w ba x0 w := ⟨hR, zaZ _ _, ⟨F, hF, rfl⟩, hle, hset⟩; have HST := hid hst; have HSC := hid (And.intro hSc (And.intro hBuf (And.intro hTab hTabs))); have HT := hid hT; have HNE := hid (And.intro hne hbv); clear hst hSc hBuf hTab hTabs hR hT hF hle hset; go_enter Tryz.func35, Tryz.ntmps35; go_wp2_with (fail); go_loopg [4] (s.size - x0.alive) (fun gh o4 wr => ∃ x : Run, x.alive + gh = s.size /\ RnSt T s F x0 w ba x wr)
 case atStart => exact ⟨x0, by have := HST.out.le; omega, HST.out⟩
 case round =>
  obtain ⟨x, hxg, hS⟩ := hrel; have hgr := hS.grown; have hbsl : bs < w.heap.size := zaa HSC.out.1; have hsc : ScAt wr bs bt rd C bv why err at' line col := (hgr.block bs hbsl (fun e => HNE.out.1 (by cases e; rfl))).trans HSC.out.1; have hbuf : zjk wr bv s := HSC.out.2.1.kept hgr.size (fun g hg => hgr.block g (by
   rcases HSC.out.2.1 with ⟨e, _⟩ | ⟨g', off, cap, e, _, hl, _⟩
   . rw [e] at hg; cases hg
   rw [e] at hg; cases hg; exact hl) (fun e => HNE.out.2 (by rw [hg]; exact e)))
  have htab := HSC.out.2.2.1.grown hgr hba hB; have htabs : Tabs wr := zfl HSC.out.2.2.2 (fun a ha => by
   have hk := hgr.block a.block (by omega) (fun e => by cases e; omega); unfold World.cell?; rw [hk])
  obtain ⟨c0, c1, c2, c3⟩ := hS.at'.cells; have s0 := zab _ _ 0 _ _ _ hsc; have s3 := zab _ _ 3 _ _ _ hsc; simp only [zLa, zLc, zLb] at s0 s3; have lbs := zaa hsc; have lba := zaa hS.at'; have HS := hid hS; have HB := hid (And.intro htab htabs); clear hS hgr hsc hbsl htab htabs
  rcases hbuf with ⟨rfl, h0⟩ | ⟨g, off, cap, rfl, hcap, hgl, hby⟩
  . have ha : x.alive = s.size := by have := HS.out.le; omega
    have hgo : zaT T s x.set x.alive = false := by simp [zaT, ha]
    have hfin := zdq HS.out.rest hgo; have HF := hid (And.intro hfin (And.intro HS.out.at' HS.out.grown)); have hz : ¬ (x.alive : Int) < (0 : Int) := by omega
    clear hfin hgo ha; go_wp2_with (fail); go_quiet (fail); go_wp2_with (fail); go_end0; exact ⟨rfl, by rw [HF.out.1]; exact HF.out.2.1, zal HF.out.2.2 _⟩
  by_cases hlt : x.alive < s.size
  . have hz : (x.alive : Int) < (s.size : Int) := by omega
    have hz2 : (x.alive : Int) <= (s.size : Int) := by omega
    have hzc : (s.size : Int) <= (cap : Int) := by omega
    have HBY := hid hby; clear hby; have HHD := hid (hd_of HBY.out hlt hgl); go_wp2_with (fail); go_quiet (fail); go_wp2_with (fail); go_quiet (fail); go_wp2_with (fail); refine (ziu g (off + x.alive) (s.size - x.alive) (cap - x.alive) (byt s x.alive) (byt s (x.alive + 1)) (byt s (x.alive + 2)) _ (by exact HB.out.2) (by exact ⟨HHD.out.c0, HHD.out.c1, HHD.out.c2, HHD.out.l0, HHD.out.l1, HHD.out.l2⟩) (by omega) (by omega)).mono ?_; rintro e w3 ⟨rfl, hb3'⟩; have hb3 : Below wr.heap.size wr w3 := ⟨hb3'.os, hb3'.tape, hb3'.output, hb3'.size, hb3'.block⟩; clear hb3'
    have hgr3 := zcu HS.out.grown hb3; have hat3 : zbe w3 ba x := (hb3.block ba lba).trans HS.out.at'; have hful : zbs (s.size - x.alive) (byt s x.alive) (byt s (x.alive + 1)) (byt s (x.alive + 2)) = zb1 s x.alive := rfl; rw [hful]; clear hful; cases hfp : zb1 s x.alive with
    | false =>
     have hgo : zaT T s x.set x.alive = false := by simp [zaT, hfp]
     have hfin := zdq HS.out.rest hgo; have HF := hid (And.intro hfin (And.intro hat3 hgr3)); clear hfin hgo hfp hat3 hgr3; go_wp2_with (fail); go_end0; exact ⟨rfl, by rw [HF.out.1]; exact HF.out.2.1, HF.out.2.2⟩
    | true =>
     have HFP := hid hfp; have HG3 := hid (And.intro hgr3 hat3); have hdec := zdr s x.alive g off cap w3 hlt (zaL HB.out.2 hb3 (by have := HS.out.grown.size; omega)) (fun i hi => (zai hb3 ⟨g, off + i, none⟩ hgl).trans (HBY.out i hi)); obtain ⟨c, n, hcn⟩ : ∃ c n, Utf8.decode s x.alive = (c, n) := ⟨_, _, rfl⟩; rw [hcn] at hdec; have HDEC := hid hdec; have HCN := hid hcn; clear hdec hcn hfp hgr3 hat3; go_wp2_with (fail); refine HDEC.out.mono ?_; rintro e w4 ⟨rfl, hb4'⟩
     have hb4 : Below wr.heap.size wr w4 := hb3.trans ⟨hb4'.os, hb4'.tape, hb4'.output, hb4'.size, fun b hb => hb4'.block b (zLd hb hb3.size)⟩; have HB4 := hid hb4; clear hb3 hb4' hb4; by_cases hbad : c = 65533 /\ n = 1
     . have hgo : zaT T s x.set x.alive = false := by simp [zaT, HCN.out, hbad]
       have hfin := zdq HS.out.rest hgo; have hat4 : zbe w4 ba x := (HB4.out.block ba lba).trans HS.out.at'; have HF := hid (And.intro hfin (And.intro hat4 (zcu HS.out.grown HB4.out))); obtain ⟨hb1, hb2⟩ := hbad; have hz1 : (c : Int) = 65533 := by omega
       have hz3 : (n : Int) = 1 := by omega
       clear hfin hgo hat4 hb1 hb2; go_wp2_with (fail); go_end0; exact ⟨rfl, by rw [HF.out.1]; exact HF.out.2.1, HF.out.2.2⟩
     have HBAD := hid hbad
     by_cases hc5 : c = 65533
     . have hz1 : (c : Int) = 65533 := by omega
       have hz3 : ¬ (n : Int) = 1 := by omega
       clear hbad hc5; have hdone : ∀ r, zbQ T x.set c = r -> r < 0 -> runT T s F x0 = x := fun r hr h => zdq HS.out.rest (by
        have h' : ¬ 0 <= zbQ T x.set c := by omega
        simp [zaT, HCN.out, h'])
       have hgo : ∀ r, zbQ T x.set c = r -> 0 <= r -> zaT T s x.set x.alive = true := fun r hr h => by
        have h' : 0 <= zbQ T x.set c := by omega
        simp only [zaT, HCN.out, HFP.out, Bool.and_eq_true, decide_eq_true_eq, Bool.not_eq_true', decide_eq_false_iff_not, true_and]; exact ⟨hlt, fun e => HBAD.out (by cases e; exact ⟨rfl, rfl⟩), h'⟩
       have HDG := hid (And.intro hdone hgo); have hat4 : zbe w4 ba x := (HB4.out.block ba lba).trans HS.out.at'; have hsc4 : w4.heap[bs]? = wr.heap[bs]? := HB4.out.block bs lbs; have k0 : w4.cell? ⟨bs, 0, none⟩ = some (zaj bt) := (zai HB4.out ⟨bs, 0, none⟩ lbs).trans s0; obtain ⟨d0, d1, d2, d3⟩ := hat4.cells; have fz : ∀ o, w4.frozen? ⟨ba, o, none⟩ = false := fun o => zae _ _ o _ _ hat4; have fz0 := fz 0; have fz1 := fz 1; have fz2 := fz 2; have fz3 := fz 3; have lbs4 : bs < w4.heap.size := zLd lbs HB4.out.size; have lba4 := zaa hat4
       have htab4 := HB.out.1.below (zeB HB4.out (by have := HS.out.grown.size; omega)); obtain ⟨r, hr⟩ : ∃ r, zbQ T x.set c = r := ⟨_, rfl⟩; have hnx : ∀ k, Calls Tryz.prog 65 #[.pointer (some ⟨bt, 0, none⟩), .int .i64 x.set, .int .i32 65533] (w4.drewN k) fun e w2 => e = .returned (.int .i64 r) /\ w2 = w4.drewN k := fun k => by
        have h2 := zkg B bt bc cc br cr bg cg x.set T R c (w4.drewN k) (htab4.below (zaH (Below.refl B w4) k)) HT.out HS.out.set (by omega); rw [hr, hz1] at h2; exact h2.mono fun _ _ h => ⟨h.1, h.2.symm⟩
       have HNX := hid hnx; have HT4 := hid htab4; have HAT4 := hid hat4; have HR := hid hr; clear hdone hgo hat4 hsc4 fz htab4 hnx hr c0 c1 c2 c3 s0 s3; go_upto_region 5 with (fail)
       go_quiet ((go_at_call 65; exact Calls.quiet_of_same (HNX.out _))); by_cases hneg : r < 0
       . have hfin := HDG.out.1 r HR.out hneg
         have HF := hid hfin; clear hfin; go_wp2_with (fail); go_end0; exact ⟨rfl, by rw [HF.out]; exact HAT4.out, zal (zcu HS.out.grown HB4.out) _⟩
       obtain ⟨m, rfl⟩ : ∃ m : Nat, r = (m : Int) := ⟨r.toNat, by omega⟩
       have hgo' := HDG.out.2 m HR.out (by omega); have hle' := zci hgo'; rw [HCN.out] at hle'; have hl1 : x.alive + n <= s.size := hle'.1; have hl2 : 1 <= n := hle'.2.1; have hl3 : n <= 4 := hle'.2.2; have hmg : m < T.goes.length := by
        have h := zkB HT.out (set := x.set) (c := c) (by rw [HR.out]; omega); rw [HR.out] at h; exact h
       obtain ⟨rx, hrx1, hrx2⟩ : ∃ rx, T.rule[m]? = some rx /\ T.rule.getD m (-1) = rx := by
        have hl : m < T.rule.length := by rw [HT.out.rules]; exact hmg
        exact ⟨T.rule[m], zLe hl, by rw [zLf, zLe hl]; rfl⟩
       have e1 := HT4.out.c1; have e2 := HT4.out.rule m rx hrx1; have hbt : bt ≠ ba := by have := HT4.out.lt; omega
       have hbr : br ≠ ba := by have := HT4.out.ltr; omega
       have hwB : B <= w4.heap.size := by omega
       have lbt : bt < w4.heap.size := zLd HT4.out.lt hwB; have lbr : br < w4.heap.size := zLd HT4.out.ltr hwB; have hrl : (m : Int) < (T.rule.length : Int) := by rw [HT.out.rules]; omega
       have hwrapn : IntKind.i64.wrap ((x.alive : Int) + (n : Int)) = ((x.alive + n : Nat) : Int) := by rw [IntWalk.i64_in _ (by omega)]; omega
       have hstep : zcT T s x = if 0 <= rx then ⟨m, x.alive + n, x.alive + n, rx⟩ else ⟨m, x.alive + n, x.long, x.rule⟩ := by
        unfold zcT; rw [HCN.out]; simp only [HR.out, Int.toNat_natCast, hrx2]
       have hrest : ∃ f, s.size < f + (x.alive + n) /\ runT T s f (zcT T s x) = runT T s F x0 := by
        obtain ⟨f, hf1, hf2⟩ := HS.out.rest; cases f with
        | zero => omega
        | succ f =>
         rw [runT, if_pos hgo'] at hf2; exact ⟨f, by omega, hf2⟩
       have HREST := hid (And.intro hstep hrest); have HGR := hid (zal (zcu HS.out.grown HB4.out) nq); clear hgo' hle' hrx1 hrx2 hstep hrest hneg; by_cases hrn : 0 <= rx
       . go_wp2_with (fail)
         go_roundg (gk - n)
         case rel =>
          refine ⟨⟨m, x.alive + n, x.alive + n, rx⟩, by simp only; omega, ?_, ?_, ?_, hl1, hmg⟩
          . exact (((show zbe (w4.drewN nq) ba x from HAT4.out).set2 m (x.alive + n)).set4 (x.alive + n) rx)
          . exact zad HGR.out (zad (zbD _ ba 0 1 _ _) (zbD _ ba 2 3 _ _))
          . have h := HREST.out.2
            rw [HREST.out.1, if_pos hrn] at h; exact h
         case measure => omega
       go_wp2_with (fail)
       go_roundg (gk - n)
       case rel =>
        refine ⟨⟨m, x.alive + n, x.long, x.rule⟩, by simp only; omega, ?_, ?_, ?_, hl1, hmg⟩
        . exact ((show zbe (w4.drewN nq) ba x from HAT4.out).set2 m (x.alive + n))
        . exact zad HGR.out (zbD _ ba 0 1 _ _)
        . have h := HREST.out.2
          rw [HREST.out.1, if_neg (by omega)] at h; exact h
       case measure => omega
     have hz1 : ¬ (c : Int) = 65533 := by omega
     clear hbad hc5; have hdone : ∀ r, zbQ T x.set c = r -> r < 0 -> runT T s F x0 = x := fun r hr h => zdq HS.out.rest (by
      have h' : ¬ 0 <= zbQ T x.set c := by omega
      simp [zaT, HCN.out, h'])
     have hgo : ∀ r, zbQ T x.set c = r -> 0 <= r -> zaT T s x.set x.alive = true := fun r hr h => by
      have h' : 0 <= zbQ T x.set c := by omega
      simp only [zaT, HCN.out, HFP.out, Bool.and_eq_true, decide_eq_true_eq, Bool.not_eq_true', decide_eq_false_iff_not, true_and]; exact ⟨hlt, fun e => HBAD.out (by cases e; exact ⟨rfl, rfl⟩), h'⟩
     have HDG := hid (And.intro hdone hgo); have hat4 : zbe w4 ba x := (HB4.out.block ba lba).trans HS.out.at'; have hsc4 : w4.heap[bs]? = wr.heap[bs]? := HB4.out.block bs lbs; have k0 : w4.cell? ⟨bs, 0, none⟩ = some (zaj bt) := (zai HB4.out ⟨bs, 0, none⟩ lbs).trans s0; obtain ⟨d0, d1, d2, d3⟩ := hat4.cells; have fz : ∀ o, w4.frozen? ⟨ba, o, none⟩ = false := fun o => zae _ _ o _ _ hat4; have fz0 := fz 0; have fz1 := fz 1; have fz2 := fz 2; have fz3 := fz 3; have lbs4 : bs < w4.heap.size := zLd lbs HB4.out.size; have lba4 := zaa hat4
     have htab4 := HB.out.1.below (zeB HB4.out (by have := HS.out.grown.size; omega)); obtain ⟨r, hr⟩ : ∃ r, zbQ T x.set c = r := ⟨_, rfl⟩; have hnx : ∀ k, Calls Tryz.prog 65 #[.pointer (some ⟨bt, 0, none⟩), .int .i64 x.set, .int .i32 c] (w4.drewN k) fun e w2 => e = .returned (.int .i64 r) /\ w2 = w4.drewN k := fun k => by
      have h2 := zkg B bt bc cc br cr bg cg x.set T R c (w4.drewN k) (htab4.below (zaH (Below.refl B w4) k)) HT.out HS.out.set (by omega); rw [hr] at h2; exact h2.mono fun _ _ h => ⟨h.1, h.2.symm⟩
     have HNX := hid hnx; have HT4 := hid htab4; have HAT4 := hid hat4; have HR := hid hr; clear hdone hgo hat4 hsc4 fz htab4 hnx hr c0 c1 c2 c3 s0 s3; go_upto_region 5 with (fail)
     go_quiet ((go_at_call 65; exact Calls.quiet_of_same (HNX.out _))); by_cases hneg : r < 0
     . have hfin := HDG.out.1 r HR.out hneg
       have HF := hid hfin; clear hfin; go_wp2_with (fail); go_end0; exact ⟨rfl, by rw [HF.out]; exact HAT4.out, zal (zcu HS.out.grown HB4.out) _⟩
     obtain ⟨m, rfl⟩ : ∃ m : Nat, r = (m : Int) := ⟨r.toNat, by omega⟩
     have hgo' := HDG.out.2 m HR.out (by omega); have hle' := zci hgo'; rw [HCN.out] at hle'; have hl1 : x.alive + n <= s.size := hle'.1; have hl2 : 1 <= n := hle'.2.1; have hl3 : n <= 4 := hle'.2.2; have hmg : m < T.goes.length := by
      have h := zkB HT.out (set := x.set) (c := c) (by rw [HR.out]; omega); rw [HR.out] at h; exact h
     obtain ⟨rx, hrx1, hrx2⟩ : ∃ rx, T.rule[m]? = some rx /\ T.rule.getD m (-1) = rx := by
      have hl : m < T.rule.length := by rw [HT.out.rules]; exact hmg
      exact ⟨T.rule[m], zLe hl, by rw [zLf, zLe hl]; rfl⟩
     have e1 := HT4.out.c1; have e2 := HT4.out.rule m rx hrx1; have hbt : bt ≠ ba := by have := HT4.out.lt; omega
     have hbr : br ≠ ba := by have := HT4.out.ltr; omega
     have hwB : B <= w4.heap.size := by omega
     have lbt : bt < w4.heap.size := zLd HT4.out.lt hwB; have lbr : br < w4.heap.size := zLd HT4.out.ltr hwB; have hrl : (m : Int) < (T.rule.length : Int) := by rw [HT.out.rules]; omega
     have hwrapn : IntKind.i64.wrap ((x.alive : Int) + (n : Int)) = ((x.alive + n : Nat) : Int) := by rw [IntWalk.i64_in _ (by omega)]; omega
     have hstep : zcT T s x = if 0 <= rx then ⟨m, x.alive + n, x.alive + n, rx⟩ else ⟨m, x.alive + n, x.long, x.rule⟩ := by
      unfold zcT; rw [HCN.out]; simp only [HR.out, Int.toNat_natCast, hrx2]
     have hrest : ∃ f, s.size < f + (x.alive + n) /\ runT T s f (zcT T s x) = runT T s F x0 := by
      obtain ⟨f, hf1, hf2⟩ := HS.out.rest; cases f with
      | zero => omega
      | succ f =>
       rw [runT, if_pos hgo'] at hf2; exact ⟨f, by omega, hf2⟩
     have HREST := hid (And.intro hstep hrest); have HGR := hid (zal (zcu HS.out.grown HB4.out) nq); clear hgo' hle' hrx1 hrx2 hstep hrest hneg; by_cases hrn : 0 <= rx
     . go_wp2_with (fail)
       go_roundg (gk - n)
       case rel =>
        refine ⟨⟨m, x.alive + n, x.alive + n, rx⟩, by simp only; omega, ?_, ?_, ?_, hl1, hmg⟩
        . exact (((show zbe (w4.drewN nq) ba x from HAT4.out).set2 m (x.alive + n)).set4 (x.alive + n) rx)
        . exact zad HGR.out (zad (zbD _ ba 0 1 _ _) (zbD _ ba 2 3 _ _))
        . have h := HREST.out.2
          rw [HREST.out.1, if_pos hrn] at h; exact h
       case measure => omega
     go_wp2_with (fail)
     go_roundg (gk - n)
     case rel =>
      refine ⟨⟨m, x.alive + n, x.long, x.rule⟩, by simp only; omega, ?_, ?_, ?_, hl1, hmg⟩
      . exact ((show zbe (w4.drewN nq) ba x from HAT4.out).set2 m (x.alive + n))
      . exact zad HGR.out (zbD _ ba 0 1 _ _)
      . have h := HREST.out.2
        rw [HREST.out.1, if_neg (by omega)] at h; exact h
     case measure => omega
  have ha : x.alive = s.size := by have := HS.out.le; omega
  have hgo : zaT T s x.set x.alive = false := by simp [zaT, ha]
  have hfin := zdq HS.out.rest hgo; have HF := hid (And.intro hfin (And.intro HS.out.at' HS.out.grown)); have hz : ¬ (x.alive : Int) < (s.size : Int) := by omega
  clear hfin hgo ha; go_wp2_with (fail); go_quiet (fail); go_wp2_with (fail); go_end0; exact ⟨rfl, by rw [HF.out.1]; exact HF.out.2.1, zal HF.out.2.2 _⟩
end
section
open Go.RowKit Go.Lib
section
variable {P : Program} {ops : Array Oper} {Q : Exit -> Act -> World -> Prop} {md : Region.Mode} {S : World -> Prop}
theorem held_take (i : Nat) {oi : Oper} {v : Value} {f : Nat} {d : Array Bool} {a : Act} {w : World} (hi : ops.toList[i]? = some oi) (hs : Region.noSelect ops = true) (hf : Region.free md ops d i = true)
 (hr : (Region.ready md ops d).contains i = true) (hQ : ∀ c a w, Q (.panic c) (a.put oi.dst v) w -> Q (.panic c) a w) (hg : Region.wanted oi (yielded ops a.tmps) = true)
 (hy : ∀ w, S w -> (execOp a.eval oi).run P w = .ok (.value v) w) (hS : S w) (h : wpAnyH P md ops Q S f (d.setIfInBounds i true) (a.put oi.dst v) w) : wpAnyH P md ops Q S (f + 1) d a w :=
 wpAnyH_take (by rw [<- hi]; simp) hs hf hr hQ (.inl ⟨hg, hy⟩) hS h
theorem zb0 (i : Nat) {oi : Oper} {f : Nat} {d : Array Bool} {a : Act} {w : World} (hi : ops.toList[i]? = some oi) (hs : Region.noSelect ops = true) (hf : Region.free md ops d i = true)
 (hr : (Region.ready md ops d).contains i = true) (hQ : ∀ c a w, Q (.panic c) (a.put oi.dst undef) w -> Q (.panic c) a w) (hg : Region.wanted oi (yielded ops a.tmps) = false)
 (hS : S w) (h : wpAnyH P md ops Q S f (d.setIfInBounds i true) (a.put oi.dst undef) w) : wpAnyH P md ops Q S (f + 1) d a w :=
 wpAnyH_take (by rw [<- hi]; simp) hs hf hr hQ (.inr ⟨hg, rfl⟩) hS h
theorem zdJ (i : Nat) {oi : Oper} {v : Value} {f : Nat} {d : Array Bool} {a : Act} {w : World} (hS : S w) (hy : ∀ w, S w -> (execOp a.eval oi).run P w = .ok (.value v) w) (h : wpAnyH P md ops Q S f (d.setIfInBounds i true) (a.put oi.dst v) w)
 (hi : ops.toList[i]? = some oi := by rfl) (hs : Region.noSelect ops = true := by kernel_rfl) (hf : Region.free md ops d i = true := by kernel_rfl) (hr : (Region.ready md ops d).contains i = true := by kernel_rfl)
 (hQ : ∀ c a w, Q (.panic c) (a.put oi.dst v) w -> Q (.panic c) a w := by exact fun _ _ _ h => h) (hg : Region.wanted oi (yielded ops a.tmps) = true := by rfl) : wpAnyH P md ops Q S (f + 1) d a w :=
 held_take i hi hs hf hr hQ hg hy hS h
theorem held_step (i : Nat) {oi : Oper} {f : Nat} {d : Array Bool} {a : Act} {w : World} (hi : ops.toList[i]? = some oi) (hr : Region.ready md ops d = [i])
 (h : ∀ K : Act -> World -> Prop, Shut (∀ a' w', S w' -> (S w' -> wpAnyH P md ops Q S f (d.setIfInBounds i true) a' w') -> K a' w') -> if Region.wanted oi (yielded ops a.tmps) = true then Oper.wp P oi a w K Q else K (a.put oi.dst undef) w) :
 wpAnyH P md ops Q S (f + 1) d a w :=
 wpAnyH_ready hr (by simp) (AllReadyH.cons (by rw [<- hi]; simp) h AllReadyH.nil)
end
theorem zkV {b : Nat} (h : b < 256) : firstT b % 8 <= zcE b /\ firstT b % 8 <= 4 := by
 unfold zcE
 rcases zbu b h with h | h | h | h | h | h | h | h | h | h <;> split <;> (first | omega | (split <;> omega))
theorem zj9 {n b0 b1 b2 : Nat} (h : zbs n b0 b1 b2 = false) (hn : 0 < n) (hb : b0 < 256) : n < zcE b0 /\ n <= 3 := by
 have hf := zkV hb; have h2 : ¬ firstT b0 % 8 <= n := fun hc => by
  have : zbs n b0 b1 b2 = true := by
   simp only [zbs, Bool.and_eq_true, Bool.or_eq_true, decide_eq_true_eq]; exact ⟨hn, .inl hc⟩
  rw [h] at this; cases this
 omega
theorem zij (T : Tab) (set m b0 b1 b2 k : Nat) (hk : k <= 3) (h : ∀ j, 1 <= j -> j <= k -> zbc T set j m b0 b1 b2 = true) (hx : k < 3 -> zbc T set (k + 1) m b0 b1 b2 = false) : zdw T set m b0 b1 b2 = k := by
 unfold zdw
 rcases (show k = 0 \/ k = 1 \/ k = 2 \/ k = 3 by omega) with rfl | rfl | rfl | rfl
 . simp [hx (by omega)]
 . simp [h 1 (by omega) (by omega), hx (by omega)]
 . simp [h 1 (by omega) (by omega), h 2 (by omega) (by omega), hx (by omega)]
 simp [h 1 (by omega) (by omega), h 2 (by omega) (by omega), h 3 (by omega) (by omega)]
structure PtSt (T : Tab) (set m b0 b1 b2 : Nat) (w1 : World) (k : Nat) (wr : World) : Prop where
 below : Below w1.heap.size w1 wr
 le : k <= 3
 ok : ∀ j, 1 <= j -> j <= k -> zbc T set j m b0 b1 b2 = true
theorem part_any (T : Tab) (R : Nat) (hT : WfT T R) (s : ByteArray) (hs : s.size < 1000000) (x : Run) (w : World) (B bs bt bc cc br cr bg cg : Nat) (rd bv why err : Value) (C : Nat) (at' line col : Int)
 (hSc : ScAt w bs bt rd C bv why err at' line col) (hBuf : zjk w bv s) (hTab : zbY B w bt T bc cc br cr bg cg) (hTabs : Tabs w) (hG : Glob <= B) (hB : B <= w.heap.size)
 (hle : x.alive <= s.size) (hset : x.set < T.goes.length) :
 Calls Tryz.prog 36 #[zaj bs, .agg #[.int .i64 x.set, .int .i64 x.alive, .int .i64 x.long, .int .i64 x.rule]] w fun e w' => e = .returned (.int .i64 (zd8 T s x.set x.alive)) /\ Below w.heap.size w w' := by
 have s3 := zab _ _ 3 _ _ _ hSc; have s0 := zab _ _ 0 _ _ _ hSc; simp only [zLa, zLc, zLb] at s0 s3; have lbs := zaa hSc; have HSC := hid (And.intro hSc (And.intro hBuf (And.intro hTab hTabs))); have HT := hid hT; clear hSc hBuf hTab hTabs hT; go_enter Tryz.func36, Tryz.ntmps36; go_wp2_with (fail); have hr1 : zbe (w.alloc (.cells #[.int .i64 x.set, .int .i64 x.alive, .int .i64 x.long, .int .i64 x.rule] 97)) w.heap.size x := zaB _ _ _ rfl
 have hb1 : Below w.heap.size w (w.alloc (.cells #[.int .i64 x.set, .int .i64 x.alive, .int .i64 x.long, .int .i64 x.rule] 97)) := (Below.refl _ w).alloc (Nat.le_refl _) _; generalize w.alloc (.cells #[.int .i64 x.set, .int .i64 x.alive, .int .i64 x.long, .int .i64 x.rule] 97) = w1 at *; have lW : w.heap.size < w1.heap.size := zaa hr1; have lbs1 : bs < w1.heap.size := by omega
 have c0 := (zai hb1 ⟨bs, 0, none⟩ lbs).trans s0; have c3 := (zai hb1 ⟨bs, 3, none⟩ lbs).trans s3; obtain ⟨d0, d1, _, _⟩ := hr1.cells; have HB1 := hid hb1; have hbuf := HSC.out.2.1; clear s0 s3 hr1 hb1
 rcases hbuf with ⟨rfl, h0⟩ | ⟨g, off, cap, rfl, hcap, hgl, hby⟩
 . obtain ⟨xs, xa, xl, xr⟩ := x
   simp only at *; obtain rfl : xa = 0 := by omega
   have hz : ¬ (1 : Int) <= (0 : Int) := by omega
   have hfin : zd8 T s xs 0 = 0 := by
    unfold zd8 zdw; have : zbc T xs 1 (s.size - 0) (byt s 0) (byt s (0 + 1)) (byt s (0 + 2)) = false := by simp [zbc, h0]
    rw [this]; rfl
   have HF := hid hfin; clear hfin; go_quiet (fail); go_wp2_with (fail); go_loopg [6, 7] 0 (fun gh o6 o7 wr => o6 = .int .i64 0 /\ o7 = .int .i64 1 /\ Below w.heap.size w wr)
   case atStart => exact ⟨rfl, rfl, zaH HB1.out _⟩
   case round =>
    obtain ⟨rfl, rfl, hb⟩ := hrel; go_wp2_with (fail); go_quiet (fail); go_wp2_with (fail); refine bodyPost_ret (v := .int .i64 0) (by simp [results, Tryz.results36, go_sem]) rfl ⟨?_, zaH hb _⟩; rw [HF.out]; rfl
 have hz2 : (x.alive : Int) <= (s.size : Int) := by omega
 have hzc : (s.size : Int) <= (cap : Int) := by omega
 have HBY := hid hby; clear hby; by_cases hlt : x.alive < s.size
 . have hcn : ¬ cap = x.alive := by omega
   go_quiet (fail); go_wp2_with (fail); obtain ⟨m, hm⟩ : ∃ m, m = s.size - x.alive := ⟨_, rfl⟩; obtain ⟨q, hq⟩ : ∃ q, q = off + x.alive := ⟨_, rfl⟩; obtain ⟨cq, hcq⟩ : ∃ cq, cq = cap - x.alive := ⟨_, rfl⟩; rw [<- hm, <- hq, <- hcq]; have hfin : ∀ k, zdw T x.set m (byt s x.alive) (byt s (x.alive + 1)) (byt s (x.alive + 2)) = k -> zd8 T s x.set x.alive = k := fun k h => by
    rw [hm] at h; exact h
   have HFIN := hid hfin; have HM := hid (And.intro hm (And.intro hq hcq)); have hmc : m <= cq := by omega
   have hm6 : m < 1000000 := by omega
   clear hfin hm hq hcq; go_loopg [6, 7] 3 (fun gh o6 o7 wr => ∃ k n : Nat, o6 = .int .i64 k /\ o7 = .int .i64 n /\ n = k + 1 /\ k + gh = 3 /\ PtSt T x.set m (byt s x.alive) (byt s (x.alive + 1)) (byt s (x.alive + 2)) w1 k wr)
   case atStart => exact ⟨0, 1, rfl, rfl, rfl, rfl, ⟨zaH (Below.refl _ w1) _, by omega, fun j h1 h2 => by omega⟩⟩
   case round =>
    obtain ⟨k, n, rfl, rfl, hnk, hkg, hP⟩ := hrel; have HP := hid hP; have hk3 := hP.le; clear hP; by_cases hkm : n <= m
    . have hz : (n : Int) <= (m : Int) := by omega
      have hz2c : (n : Int) <= (cq : Int) := by omega
      have hn1 : IntKind.i64.wrap ((n : Int) + 1) = ((n + 1 : Nat) : Int) := by rw [IntWalk.i64_in _ (by omega)]; omega
      have hhd := hd_of HBY.out hlt hgl; rw [<- HM.out.1, <- HM.out.2.1] at hhd; have hcell : ∀ wx, Below w1.heap.size w1 wx -> ∀ o, wx.cell? ⟨g, o, none⟩ = w.cell? ⟨g, o, none⟩ := fun wx hbx o =>
       (zai hbx ⟨g, o, none⟩ (by show g < _; omega)).trans (zai HB1.out ⟨g, o, none⟩ hgl)
      have hfull : ∀ wx, Below w1.heap.size w1 wx -> Calls Tryz.prog 38 #[.slice (some ⟨g, q, none⟩) n cq] wx fun e w' => e = .returned (.bool (zbs n (byt s x.alive) (byt s (x.alive + 1)) (byt s (x.alive + 2)))) /\ Below w1.heap.size w1 w' := fun wx hbx =>
       (ziu g q n cq _ _ _ wx (zaL (zaL HSC.out.2.2.2 HB1.out (by omega)) hbx (by omega)) ⟨(hcell wx hbx _).trans hhd.c0, fun h => (hcell wx hbx _).trans (hhd.c1 (by omega)), fun h => (hcell wx hbx _).trans (hhd.c2 (by omega)), hhd.l0, hhd.l1, hhd.l2⟩ (by omega) (by omega)).mono
        fun e w' h => ⟨h.1, hbx.trans (h.2.mono hbx.size)⟩
      have hbeg : ∀ wx, Below w1.heap.size w1 wx -> zbs n (byt s x.alive) (byt s (x.alive + 1)) (byt s (x.alive + 2)) = false -> Calls Tryz.prog 66 #[.pointer (some ⟨bt, 0, none⟩), .int .i64 x.set, .slice (some ⟨g, q, none⟩) n cq] wx fun e w' => e = .returned (.bool (zb7 T x.set n (byt s x.alive) (byt s (x.alive + 1)) (byt s (x.alive + 2)))) /\ Below w1.heap.size w1 w' := fun wx hbx hnf => by
       have hnl := zj9 hnf (by omega) hhd.l0; exact (zll B bt bc cc br cr bg cg x.set g q n cq _ _ _ T R wx (HSC.out.2.2.1.below ((HB1.out.mono hB).trans (hbx.mono (by omega)))) HT.out hset
        ⟨(hcell wx hbx _).trans hhd.c0, fun h => (hcell wx hbx _).trans (hhd.c1 (by omega)), fun h => (hcell wx hbx _).trans (hhd.c2 (by omega)), hhd.l0, hhd.l1, hhd.l2, by omega, hnl.2⟩ (by omega) hnl.1 (by have := hbx.size; omega)).mono
        fun e w' h => ⟨h.1, hbx.trans (h.2.mono hbx.size)⟩
      have hbw := HP.out.below; have c0r := (zai hbw ⟨bs, 0, none⟩ lbs1).trans c0; have d0r := (zai hbw ⟨w.heap.size, 0, none⟩ lW).trans d0; have HBW := hid hbw; have hl0 := hhd.l0; clear hbw hcell hhd; have hso : ∀ wx, Below w1.heap.size w1 wx -> Below w1.heap.size w1 wx /\ wx.cell? ⟨bs, 0, none⟩ = some (zaj bt) /\ wx.cell? ⟨w.heap.size, 0, none⟩ = some (.int .i64 x.set) := fun wx hbx => ⟨hbx, (zai hbx ⟨bs, 0, none⟩ lbs1).trans c0, (zai hbx ⟨w.heap.size, 0, none⟩ lW).trans d0⟩; have HSO := hid hso; clear hso c0 c3 c0r d0 d1 d0r
      cases hfu : zbs n (byt s x.alive) (byt s (x.alive + 1)) (byt s (x.alive + 2)) with
      | true =>
       rw [hfu] at hfull; have HFULL := hid hfull; have hres : zdw T x.set m (byt s x.alive) (byt s (x.alive + 1)) (byt s (x.alive + 2)) = k := zij _ _ _ _ _ _ _ HP.out.le HP.out.ok (fun _ => by rw [<- hnk]; simp [zbc, hfu]); have HRES := hid (HFIN.out k hres); clear hres hfull hbeg hfu hl0 hnk; go_wp2_with (fail); go_upto_region 4 with (fail)
       refine wp_region_noPanic ?_; refine wp_region_held_drew (S := fun w' => Below w1.heap.size w1 w') (by kernel_rfl) HBW.out.drew (fun hS0 => ?_); refine zdJ 0 hS0 ?_ ?_ (v := ?_); rotate_left
       . intro w9 hS9
         go_simp; (try with_reducible rfl)
       (try simp only [Act.put, lA, lB, lC]); refine zdJ 1 hS0 ?_ ?_ (v := ?_); rotate_left
       . intro w9 hS9
         go_simp; (try with_reducible rfl)
       (try simp only [Act.put, lA, lB, lC]); refine zdJ 2 hS0 ?_ ?_ (v := ?_); rotate_left
       . intro w9 hS9
         go_simp; (try with_reducible rfl)
       (try simp only [Act.put, lA, lB, lC]); refine zdJ 3 hS0 ?_ ?_ (v := ?_); rotate_left
       . intro w9 hS9
         go_simp; (try with_reducible rfl)
       (try simp only [Act.put, lA, lB, lC]); refine zdJ 4 hS0 ?_ ?_ (v := ?_); rotate_left
       . intro w9 hS9
         go_simp; (try with_reducible rfl)
       (try simp only [Act.put, lA, lB, lC]); refine zdJ 5 hS0 ?_ ?_ (v := ?_); rotate_left
       . intro w9 hS9
         go_simp; (try with_reducible rfl)
       (try simp only [Act.put, lA, lB, lC]); refine zdJ 6 hS0 ?_ ?_ (v := ?_); rotate_left
       . intro w9 hS9
         go_simp; (try with_reducible rfl)
       (try simp only [Act.put, lA, lB, lC]); refine zdJ 7 hS0 ?_ ?_ (v := ?_); rotate_left
       . intro w9 hS9
         go_simp; (try with_reducible rfl)
       (try simp only [Act.put, lA, lB, lC]); refine held_step 8 (by rfl) (by kernel_rfl) (fun K hK => ?_); go_simp; go_at_call 38; refine (HFULL.out _ (by exact hS0)).mono ?_; rintro e w2 ⟨rfl, hb2⟩; refine hK.out _ _ hb2 (fun hS1 => ?_); clear hK K hS0; have hS0 := hS1; clear hS1; (try simp only [Act.put, lA, lB, lC]); refine zdJ 9 hS0 ?_ ?_ (v := ?_); rotate_left
       . intro w9 hS9
         go_simp; (try with_reducible rfl)
       (try simp only [Act.put, lA, lB, lC]); refine zdJ 10 hS0 ?_ ?_ (v := ?_); rotate_left
       . intro w9 hS9
         go_simp; (try with_reducible rfl)
       (try simp only [Act.put, lA, lB, lC]); refine zdJ 11 hS0 ?_ ?_ (v := ?_); rotate_left
       . intro w9 hS9
         go_simp; (try with_reducible rfl)
       (try simp only [Act.put, lA, lB, lC]); refine zb0 12 (by rfl) (by kernel_rfl) (by kernel_rfl) (by kernel_rfl) (fun _ _ _ h => h) (by rfl) hS0 ?_; (try simp only [Act.put, lA, lB, lC]); refine zb0 13 (by rfl) (by kernel_rfl) (by kernel_rfl) (by kernel_rfl) (fun _ _ _ h => h) (by rfl) hS0 ?_; (try simp only [Act.put, lA, lB, lC]); refine zb0 14 (by rfl) (by kernel_rfl) (by kernel_rfl) (by kernel_rfl) (fun _ _ _ h => h) (by rfl) hS0 ?_; (try simp only [Act.put, lA, lB, lC])
       refine zb0 15 (by rfl) (by kernel_rfl) (by kernel_rfl) (by kernel_rfl) (fun _ _ _ h => h) (by rfl) hS0 ?_; (try simp only [Act.put, lA, lB, lC]); refine zb0 16 (by rfl) (by kernel_rfl) (by kernel_rfl) (by kernel_rfl) (fun _ _ _ h => h) (by rfl) hS0 ?_; (try simp only [Act.put, lA, lB, lC]); refine zb0 17 (by rfl) (by kernel_rfl) (by kernel_rfl) (by kernel_rfl) (fun _ _ _ h => h) (by rfl) hS0 ?_; (try simp only [Act.put, lA, lB, lC]); refine zb0 18 (by rfl) (by kernel_rfl) (by kernel_rfl) (by kernel_rfl) (fun _ _ _ h => h) (by rfl) hS0 ?_
       (try simp only [Act.put, lA, lB, lC]); refine zb0 19 (by rfl) (by kernel_rfl) (by kernel_rfl) (by kernel_rfl) (fun _ _ _ h => h) (by rfl) hS0 ?_; (try simp only [Act.put, lA, lB, lC]); refine zb0 20 (by rfl) (by kernel_rfl) (by kernel_rfl) (by kernel_rfl) (fun _ _ _ h => h) (by rfl) hS0 ?_; (try simp only [Act.put, lA, lB, lC]); refine zb0 21 (by rfl) (by kernel_rfl) (by kernel_rfl) (by kernel_rfl) (fun _ _ _ h => h) (by rfl) hS0 ?_; (try simp only [Act.put, lA, lB, lC]); refine zdJ 22 hS0 ?_ ?_ (v := ?_); rotate_left
       . intro w9 hS9
         go_simp; (try with_reducible rfl)
       (try simp only [Act.put, lA, lB, lC]); refine wpAnyH_done (by kernel_rfl) ?_ _; refine NoPanic.normal ?_; go_wp2_with (fail); refine bodyPost_ret (v := .int .i64 k) (by simp [results, Tryz.results36, go_sem]) rfl ⟨?_, HB1.out.trans (hb2.mono (by omega))⟩; rw [HRES.out]
      | false =>
       have hbeg' : ∀ wx, Below w1.heap.size w1 wx -> Calls Tryz.prog 66 #[.pointer (some ⟨bt, 0, none⟩), .int .i64 x.set, .slice (some ⟨g, q, none⟩) n cq] wx fun e w' => e = .returned (.bool (zb7 T x.set n (byt s x.alive) (byt s (x.alive + 1)) (byt s (x.alive + 2)))) /\ Below w1.heap.size w1 w' := fun wx hbx => hbeg wx hbx hfu; have hn3 := (zj9 hfu (by omega) hl0).2; rw [hfu] at hfull; have HFULL := hid hfull; clear hfull hbeg hl0; cases hbe : zb7 T x.set n (byt s x.alive) (byt s (x.alive + 1)) (byt s (x.alive + 2)) with
       | false =>
        rw [hbe] at hbeg'; have HBEG := hid hbeg'; have hres : zdw T x.set m (byt s x.alive) (byt s (x.alive + 1)) (byt s (x.alive + 2)) = k := zij _ _ _ _ _ _ _ HP.out.le HP.out.ok (fun _ => by rw [<- hnk]; simp [zbc, hbe]); have HRES := hid (HFIN.out k hres); clear hres hbeg' hfu hbe hnk; go_wp2_with (fail); go_upto_region 4 with (fail)
        go_region_held3 (fun w' => Below w1.heap.size w1 w' /\ w'.cell? ⟨bs, 0, none⟩ = some (zaj bt) /\ w'.cell? ⟨w.heap.size, 0, none⟩ = some (.int .i64 x.set)) (first | exact HSO.out _ HBW.out.drew | exact HSO.out _ (zaH HBW.out _) | exact HSO.out _ (by assumption)) (first | (go_at_call 38; refine (HFULL.out _ (by first | exact HBW.out.drew | exact zaH HBW.out _ | assumption)).mono ?_; rintro e w2 ⟨rfl, hb2⟩) | (go_at_call 66; refine (HBEG.out _ (by first | exact HBW.out.drew | exact zaH HBW.out _ | assumption)).mono ?_; rintro e w3 ⟨rfl, hb3⟩)); go_wp2_with (fail)
        refine bodyPost_ret (v := .int .i64 k) (by simp [results, Tryz.results36, go_sem]) rfl ⟨?_, HB1.out.trans (hb3.mono (by omega))⟩; rw [HRES.out]
       | true =>
        rw [hbe] at hbeg'; have HBEG := hid hbeg'; have hok : zbc T x.set n m (byt s x.alive) (byt s (x.alive + 1)) (byt s (x.alive + 2)) = true := by simp [zbc, hfu, hbe, hkm]
        have HOK := hid (And.intro hok hnk); clear hok hbeg' hfu hbe hnk; go_wp2_with (fail); go_upto_region 4 with (fail)
        go_region_held3 (fun w' => Below w1.heap.size w1 w' /\ w'.cell? ⟨bs, 0, none⟩ = some (zaj bt) /\ w'.cell? ⟨w.heap.size, 0, none⟩ = some (.int .i64 x.set)) (first | exact HSO.out _ HBW.out.drew | exact HSO.out _ (zaH HBW.out _) | exact HSO.out _ (by assumption)) (first | (go_at_call 38; refine (HFULL.out _ (by first | exact HBW.out.drew | exact zaH HBW.out _ | assumption)).mono ?_; rintro e w2 ⟨rfl, hb2⟩) | (go_at_call 66; refine (HBEG.out _ (by first | exact HBW.out.drew | exact zaH HBW.out _ | assumption)).mono ?_; rintro e w3 ⟨rfl, hb3⟩)); go_wp2_with (fail)
        go_roundg (gk - 1)
        case rel =>
         have hnk' := HOK.out.2; refine ⟨n, n + 1, rfl, rfl, rfl, by omega, ⟨hb3, hn3, fun j h1 h2 => ?_⟩⟩
         rcases Nat.lt_or_ge j n with h | h
         . exact HP.out.ok j h1 (by omega)
         . obtain rfl : j = n := by omega
           exact HOK.out.1
        case measure => have := HOK.out.2; omega
    have hz : ¬ (n : Int) <= (m : Int) := by omega
    have hres : zdw T x.set m (byt s x.alive) (byt s (x.alive + 1)) (byt s (x.alive + 2)) = k := zij _ _ _ _ _ _ _ HP.out.le HP.out.ok (fun _ => by rw [<- hnk]; simp [zbc, hkm]); have HRES := hid (HFIN.out k hres); clear hres hnk; go_wp2_with (fail); go_quiet (fail); go_wp2_with (fail); refine bodyPost_ret (v := .int .i64 k) (by simp [results, Tryz.results36, go_sem]) rfl ⟨?_, HB1.out.trans (zaH (HP.out.below.mono (by omega)) _)⟩; rw [HRES.out]
 have hz : ¬ (1 : Int) <= (0 : Int) := by omega
 have hzero : s.size - x.alive = 0 := by omega
 have hfin : zd8 T s x.set x.alive = 0 := by
  unfold zd8 zdw; have : zbc T x.set 1 (s.size - x.alive) (byt s x.alive) (byt s (x.alive + 1)) (byt s (x.alive + 2)) = false := by simp [zbc]; omega
  rw [this]; rfl
 have HF := hid hfin; clear hfin; go_quiet (fail)
 all_goals go_wp2_with (fail)
 all_goals focus (
  go_loopg [6, 7] 0 (fun gh o6 o7 wr => o6 = .int .i64 0 /\ o7 = .int .i64 1 /\ Below w.heap.size w wr)
  case atStart => exact ⟨rfl, rfl, zaH HB1.out _⟩
  case round =>
   obtain ⟨rfl, rfl, hb⟩ := hrel; go_wp2_with (fail); go_quiet (fail); go_wp2_with (fail); refine bodyPost_ret (v := .int .i64 0) (by simp [results, Tryz.results36, go_sem]) rfl ⟨?_, zaH hb _⟩; rw [HF.out]; rfl)
end
section
open Go.RowKit Go.Lib
def zaX (s : ByteArray) : Nat -> Nat -> Int -> Int -> Int × Int
 | 0, _, line, col => (line, col)
 | f + 1, p, line, col =>
  if p < s.size then
   (if (Utf8.decode s p).1 = 10 then zaX s f (p + (Utf8.decode s p).2) (line + 1) 1 else zaX s f (p + (Utf8.decode s p).2) line (col + 1))
  else (line, col)
theorem zfz (s : ByteArray) (f p : Nat) (line col : Int) (h : s.size <= p) : zaX s f p line col = (line, col) := by
 cases f with
 | zero => rfl
 | succ f => rw [zaX, if_neg (by omega)]
theorem zeJ (s : ByteArray) (f p : Nat) (line col : Int) (h : p < s.size) :
 zaX s (f + 1) p line col = if (Utf8.decode s p).1 = 10 then zaX s f (p + (Utf8.decode s p).2) (line + 1) 1 else zaX s f (p + (Utf8.decode s p).2) line (col + 1) := by
 rw [zaX, if_pos h]
theorem zj4 (s : ByteArray) (n g off cap : Nat) (w : World) (hn : n <= s.size) (hb : ∀ i, i < s.size -> w.cell? ⟨g, off + i, none⟩ = some (.int .u8 (byt s i))) :
 (convert 55 9 (.slice (some ⟨g, off, none⟩) n cap)).run Tryz.prog w = .ok (.string (s.extract 0 n)) w := by
 have hl : (s.extract 0 n).data.toList.length = n := by
  have := zbk s n hn; simpa using this
 have h := run_convert_bytes_back (P := Tryz.prog) w 55 9 5 ⟨g, off, none⟩ cap (s.extract 0 n).data.toList Tryz.underlying55 Tryz.underlying5 Tryz.underlying9 (fun j hj => by
  have hj' : j < n := by omega
  have h1 := hb j (by omega); have h2 := zbn s n j hn hj'; have he : (⟨g, off, none⟩ : Addr).add j = ⟨g, off + j, none⟩ := by simp [Addr.add]
  rw [he, h1, <- h2]; congr 2; unfold byt; simp only [ByteArray.get!]; rw [getElem!_pos _ _ (by simpa using hj)]; simp)
 rw [hl] at h; exact h
end
section
open Go.RowKit Go.Lib
theorem zbO (s : ByteArray) (p : Nat) (h : p < s.size) : 1 <= (Utf8.decode s p).2 /\ p + (Utf8.decode s p).2 <= s.size := by
 by_cases hb : (Utf8.decode s p).1 = 65533 /\ (Utf8.decode s p).2 = 1
 . rw [hb.2]; omega
 have := zfA s p h hb; omega
theorem zcF (s : ByteArray) (hs : s.size < 1000000) (x : Run) (w : World) (bs bt g off cap : Nat) (rd why err : Value) (C : Nat) (at' line col : Int)
 (hSc : ScAt w bs bt rd C (.slice (some ⟨g, off, none⟩) s.size cap) why err at' line col) (hcap : s.size <= cap) (hgl : g < w.heap.size) (hne : g ≠ bs)
 (hby : ∀ i, i < s.size -> w.cell? ⟨g, off + i, none⟩ = some (.int .u8 (byt s i))) (hle : x.long <= s.size) (hat : 0 <= at' /\ at' < 1000000000) (hline : 0 <= line /\ line < 1000000000) (hcol : 0 <= col /\ col < 1000000000) :
 Calls Tryz.prog 41 #[zaj bs, .agg #[.int .i64 x.set, .int .i64 x.alive, .int .i64 x.long, .int .i64 x.rule]] w fun e w' => e = .returned (.agg #[.int .i64 x.rule, .int .i64 at', .int .i64 line, .int .i64 col, .string (s.extract 0 x.long)]) /\ w.grownBy w' (some bs) /\
  ∃ pa : Addr, (pa = ⟨g, off + x.long, none⟩ \/ (cap = x.long /\ pa = ⟨g, off, none⟩)) /\ ScAt w' bs bt rd C (.slice (some pa) (s.size - x.long) (cap - x.long)) why err (at' + x.long) (zaX (s.extract 0 x.long) (x.long + 1) 0 line col).1 (zaX (s.extract 0 x.long) (x.long + 1) 0 line col).2 := by
 have s3 := zab _ _ 3 _ _ _ hSc; have s6 := zab _ _ 6 _ _ _ hSc; have s7 := zab _ _ 7 _ _ _ hSc; have s8 := zab _ _ 8 _ _ _ hSc; simp only [zLa, zLc, zLb] at s3 s6 s7 s8; have lbs := zaa hSc; have HSC := hid (And.intro hSc hby); clear hSc hby; go_enter Tryz.func41, Tryz.ntmps41; go_wp2_with (fail)
 obtain ⟨w2, hw2⟩ : ∃ w2, w2 = ((w.alloc (.cells #[.int .i64 x.set, .int .i64 x.alive, .int .i64 x.long, .int .i64 x.rule] 97)).alloc (.cells #[.int .i64 0, .int .i64 0, .int .i64 0, .int .i64 0, .string ⟨#[]⟩] 28)) := ⟨_, rfl⟩; have hb2 : Below w.heap.size w w2 := by rw [hw2]; exact ((Below.refl _ w).alloc (Nat.le_refl _) _).alloc (by simp) _
 have hr2 : zbe w2 w.heap.size x := by rw [hw2]; exact (zau _ _ _ (by simp)).trans (zaB _ _ _ rfl)
 have ht2 : w2.heap[w.heap.size + 1]? = some (.cells #[.int .i64 0, .int .i64 0, .int .i64 0, .int .i64 0, .string ⟨#[]⟩] 28 (0, 0)) := by rw [hw2]; exact zaB _ _ _ (by simp)
 rw [<- hw2]; have HB2 := hid (And.intro hb2 (And.intro hr2 ht2)); have hso : ∀ w', Below w2.heap.size w2 w' -> Below w2.heap.size w2 w' /\ w'.cell? ⟨bs, 3, none⟩ = some (.slice (some ⟨g, off, none⟩) s.size cap) /\ w'.cell? ⟨bs, 6, none⟩ = some (.int .i64 at') /\ w'.cell? ⟨bs, 7, none⟩ = some (.int .i64 line) /\ w'.cell? ⟨bs, 8, none⟩ = some (.int .i64 col) /\ w'.cell? ⟨w.heap.size, 2, none⟩ = some (.int .i64 x.long) /\ w'.cell? ⟨w.heap.size, 3, none⟩ = some (.int .i64 x.rule) /\
  (convert 55 9 (.slice (some ⟨g, off, none⟩) x.long cap)).run Tryz.prog w' = .ok (.string (s.extract 0 x.long)) w' := fun w' hb => by
  have hl : bs < w2.heap.size := zLd lbs hb2.size; have hl2 := zaa hr2; obtain ⟨_, _, e2, e3⟩ := hr2.cells; have hk : ∀ o, w'.cell? ⟨bs, o, none⟩ = w.cell? ⟨bs, o, none⟩ := fun o => (zai hb ⟨bs, o, none⟩ hl).trans (zai hb2 ⟨bs, o, none⟩ lbs); refine ⟨hb, (hk 3).trans s3, (hk 6).trans s6, (hk 7).trans s7, (hk 8).trans s8, (zai hb ⟨w.heap.size, 2, none⟩ hl2).trans e2, (zai hb ⟨w.heap.size, 3, none⟩ hl2).trans e3, zj4 s x.long g off cap w' hle (fun i hi => ?_)⟩
  exact ((zai hb ⟨g, off + i, none⟩ (zLd hgl hb2.size)).trans (zai hb2 ⟨g, off + i, none⟩ hgl)).trans (HSC.out.2 i hi)
 have HSO := hid hso; have hz1 : (x.long : Int) <= (cap : Int) := by omega
 have hz2 : (x.long : Int) <= (s.size : Int) := by omega
 clear hw2 hb2 hr2 ht2 hso s3 s6 s7 s8; go_region_held3 (fun w' => Below w2.heap.size w2 w' /\ w'.cell? ⟨bs, 3, none⟩ = some (.slice (some ⟨g, off, none⟩) s.size cap) /\ w'.cell? ⟨bs, 6, none⟩ = some (.int .i64 at') /\ w'.cell? ⟨bs, 7, none⟩ = some (.int .i64 line) /\ w'.cell? ⟨bs, 8, none⟩ = some (.int .i64 col) /\ w'.cell? ⟨w.heap.size, 2, none⟩ = some (.int .i64 x.long) /\ w'.cell? ⟨w.heap.size, 3, none⟩ = some (.int .i64 x.rule) /\
  (convert 55 9 (.slice (some ⟨g, off, none⟩) x.long cap)).run Tryz.prog w' = .ok (.string (s.extract 0 x.long)) w') (first | exact HSO.out _ (Below.refl _ _).drew | exact HSO.out _ ((Below.refl _ _).drew.alloc (by simp) _) | exact HSO.out _ (((Below.refl _ _).drew.alloc (by simp) _).setCell (by simp) _)) (fail)
 obtain ⟨w3, hw3⟩ : ∃ w3, w3 = (w2.alloc (.cells #[.int .i64 x.rule, .int .i64 at', .int .i64 line, .int .i64 col, .string (s.extract 0 x.long)] 28)).drew := ⟨_, rfl⟩; have hb3 : Below w2.heap.size w2 w3 := by rw [hw3]; exact ((Below.refl _ w2).alloc (Nat.le_refl _) _).drew
 have ht3 : w3.heap[w2.heap.size]? = some (.cells #[.int .i64 x.rule, .int .i64 at', .int .i64 line, .int .i64 col, .string (s.extract 0 x.long)] 28 (0, 0)) := by rw [hw3]; exact zaB _ _ _ rfl
 rw [<- hw3]; clear hw3; have hs3 := HSO.out w3 hb3; have hsc3 : ScAt w3 bs bt rd C (.slice (some ⟨g, off, none⟩) s.size cap) why err at' line col := (hb3.block bs (zLd lbs HB2.out.1.size)).trans ((HB2.out.1.block bs lbs).trans HSC.out.1); have HB3 := hid (And.intro hb3 (And.intro ht3 hsc3)); clear hb3 ht3 hsc3; go_wp2_with (fail); obtain ⟨_, k3, k6, k7, k8, l2, l3, _⟩ := hs3; have fz3 : w3.frozen? ⟨bs, 3, none⟩ = false := zae _ _ 3 _ _ HB3.out.2.2
 obtain ⟨pa, hpa, hpa2⟩ : ∃ pa : Addr, (if cap = x.long then some (⟨g, off, none⟩ : Addr) else some ⟨g, off + x.long, none⟩) = some pa /\ (pa = ⟨g, off + x.long, none⟩ \/ (cap = x.long /\ pa = ⟨g, off, none⟩)) := by
  by_cases hcl : cap = x.long
  . exact ⟨_, by rw [if_pos hcl], .inr ⟨hcl, rfl⟩⟩
  exact ⟨_, by rw [if_neg hcl], .inl rfl⟩
 have HPA := hid hpa2; clear hpa2; refine wp_region_noPanic ?_; refine zaA (fun w' => w'.cell? ⟨bs, 3, none⟩ = some (.slice (some ⟨g, off, none⟩) s.size cap) /\ w'.cell? ⟨w.heap.size, 2, none⟩ = some (.int .i64 x.long) /\ w'.frozen? ⟨bs, 3, none⟩ = false) 10 (by kernel_rfl) ⟨k3, l2, fz3⟩ (fun hS0 => ?_); refine zak 0 hS0 ?_; (try simp only [Act.put, lA, lB, lC]); refine zak 1 hS0 ?_; (try simp only [Act.put, lA, lB, lC]); refine zak 2 hS0 ?_; (try simp only [Act.put, lA, lB, lC]); refine zak 3 hS0 ?_; (try simp only [Act.put, lA, lB, lC]); refine zak 4 hS0 ?_; (try simp only [Act.put, lA, lB, lC]); refine zak 5 hS0 ?_; (try simp only [Act.put, lA, lB, lC]); refine zak 6 hS0 ?_; (try simp only [Act.put, lA, lB, lC]); refine zak 7 hS0 ?_; (try simp only [Act.put, lA, lB, lC]); refine zaq 8 (by rfl) (by kernel_rfl) (fun K hK => ?_); go_simp; refine hK.out _ _ (fun _ => hS0) ?_; clear hK K; (try simp only [Act.put, lA, lB, lC]); refine zaq 9 (by rfl) (by kernel_rfl) (fun K hK => ?_); go_simp; refine hK.out _ _ (fun _ => hS0) ?_; clear hK K; (try simp only [Act.put, lA, lB, lC]); refine zaq 10 (by rfl) (by kernel_rfl) (fun K hK => ?_); go_simp; refine hK.out _ _ (fun h => absurd rfl h) ?_; clear hK K hS0; (try simp only [Act.put, lA, lB, lC]); refine zaP (by kernel_rfl) ?_; refine NoPanic.normal ?_
 go_wp2_with (fail); have hsc4 : ScAt (w3.setCell ⟨bs, 3, none⟩ (.slice (some pa) (s.size - x.long) (cap - x.long))).drew bs bt rd C (.slice (some pa) (s.size - x.long) (cap - x.long)) why err at' line col := zac _ bs 3 _ _ _ _ HB3.out.2.2; have gr4 : w3.grownBy (w3.setCell ⟨bs, 3, none⟩ (.slice (some pa) (s.size - x.long) (cap - x.long))).drew (some bs) := zal (zag _ bs 3 _) 1; generalize (w3.setCell ⟨bs, 3, none⟩ (.slice (some pa) (s.size - x.long) (cap - x.long))).drew = w4 at hsc4 gr4 ⊢; have q6 := zab _ _ 6 _ _ _ hsc4
 have fz6 : w4.frozen? ⟨bs, 6, none⟩ = false := zae _ _ 6 _ _ hsc4; simp only [zLa, zLc, zLb] at q6; have lX3 : w.heap.size < w3.heap.size := by have := HB3.out.1.size; have := zaa HB2.out.2.1; omega
 have lX3b : w.heap.size ≠ bs := by omega
 have hX4 : zbe w4 w.heap.size x := (gr4.block w.heap.size lX3 (fun e => lX3b (by cases e; rfl))).trans ((HB3.out.1.block _ (zaa HB2.out.2.1)).trans HB2.out.2.1); obtain ⟨_, _, x2, _⟩ := hX4.cells; have hwat : IntKind.i64.wrap (at' + (x.long : Int)) = at' + x.long := by rw [IntWalk.i64_in _ (by omega)]
 have HS4 := hid (And.intro hsc4 (And.intro gr4 hX4)); clear hsc4 gr4 hX4; refine wp_region_noPanic ?_; refine zaA (fun w' => w'.cell? ⟨bs, 6, none⟩ = some (.int .i64 at') /\ w'.cell? ⟨w.heap.size, 2, none⟩ = some (.int .i64 x.long) /\ w'.frozen? ⟨bs, 6, none⟩ = false) 9 (by kernel_rfl) ⟨q6, x2, fz6⟩ (fun hS0 => ?_); refine zak 0 hS0 ?_; (try simp only [Act.put, lA, lB, lC]); refine zak 1 hS0 ?_; (try simp only [Act.put, lA, lB, lC]); refine zak 2 hS0 ?_; (try simp only [Act.put, lA, lB, lC]); refine zak 3 hS0 ?_; (try simp only [Act.put, lA, lB, lC]); refine zak 4 hS0 ?_; (try simp only [Act.put, lA, lB, lC]); refine zak 5 hS0 ?_; (try simp only [Act.put, lA, lB, lC]); refine zak 6 hS0 ?_; (try simp only [Act.put, lA, lB, lC]); refine zaq 7 (by rfl) (by kernel_rfl) (fun K hK => ?_); go_simp; refine hK.out _ _ (fun _ => hS0) ?_; clear hK K; (try simp only [Act.put, lA, lB, lC]); refine zaq 8 (by rfl) (by kernel_rfl) (fun K hK => ?_); go_simp; refine hK.out _ _ (fun _ => hS0) ?_; clear hK K; (try simp only [Act.put, lA, lB, lC]); refine zaq 9 (by rfl) (by kernel_rfl) (fun K hK => ?_); go_simp; refine hK.out _ _ (fun h => absurd rfl h) ?_; clear hK K hS0; (try simp only [Act.put, lA, lB, lC]); refine zaP (by kernel_rfl) ?_; refine NoPanic.normal ?_
 have hsc5 : ScAt (w4.setCell ⟨bs, 6, none⟩ (.int .i64 (at' + x.long))).drew bs bt rd C (.slice (some pa) (s.size - x.long) (cap - x.long)) why err (at' + x.long) line col := zac _ bs 6 _ _ _ _ HS4.out.1; have gr5 : w3.grownBy (w4.setCell ⟨bs, 6, none⟩ (.int .i64 (at' + x.long))).drew (some bs) := zal (zad HS4.out.2.1 (zag _ bs 6 _)) 1; generalize (w4.setCell ⟨bs, 6, none⟩ (.int .i64 (at' + x.long))).drew = w5 at hsc5 gr5 ⊢; have lw2 : w2.heap.size < w3.heap.size := zaa HB3.out.2.1; have lw2b : w2.heap.size ≠ bs := by have := HB2.out.1.size; omega
 have ht5 : w5.heap[w2.heap.size]? = some (.cells #[.int .i64 x.rule, .int .i64 at', .int .i64 line, .int .i64 col, .string (s.extract 0 x.long)] 28 (0, 0)) := (gr5.block _ lw2 (fun e => lw2b (by cases e; rfl))).trans HB3.out.2.1; have t4 := zab _ _ 4 _ _ _ ht5; simp only [zLa, zLc, zLb] at t4; have HS5 := hid (And.intro hsc5 (And.intro gr5 ht5)); clear hsc5 gr5 ht5 q6 fz6 x2 k3 k6 k7 k8 l2 l3 fz3; go_wp2_with (fail); have hsz := zbk s x.long hle; obtain ⟨text, htext⟩ : ∃ text, text = s.extract 0 x.long := ⟨_, rfl⟩
 have HTX := hid htext; rw [<- htext] at hsz t4 HS5 ⊢; obtain ⟨F, hF⟩ : ∃ F, F = zaX text (x.long + 1) 0 line col := ⟨_, rfl⟩; have HF := hid hF; obtain ⟨n, hn⟩ : ∃ n, n = x.long := ⟨_, rfl⟩; have HN := hid hn; have HSZ := hid (hsz.trans hn.symm); have HLC := hid (And.intro hline (And.intro hcol (And.intro hle hs))); have lw5 : w2.heap.size < w5.heap.size := zaa HS5.out.2.2; have lb5 : bs < w5.heap.size := zaa HS5.out.1; have hit0 : (w5.iter text 0).heap[w5.heap.size]? = some (.stringIter text 0) := World.iter_heap w5 text 0
 have hsc0 : ScAt (w5.iter text 0) bs bt rd C (.slice (some pa) (s.size - x.long) (cap - x.long)) why err (at' + x.long) line col := (Below.heap_alloc _ _ _ lb5).trans HS5.out.1; have hgr0 : w5.grownBy (w5.iter text 0) (some bs) := zah ((Below.refl _ _).alloc (Nat.le_refl _) _) _; generalize w5.iter text 0 = wi at hit0 hsc0 hgr0 ⊢; have HI0 := hid (And.intro hit0 (And.intro hsc0 hgr0)); clear hit0 hsc0 hgr0 hsz htext hF hn hline hcol hle hs
 go_loopg [7] n (fun gh o7 wr => ∃ (p f : Nat) (ln cl : Int), p + gh = n /\ wr.heap[w5.heap.size]? = some (.stringIter text p) /\ ScAt wr bs bt rd C (.slice (some pa) (s.size - x.long) (cap - x.long)) why err (at' + x.long) ln cl /\ w5.grownBy wr (some bs) /\ n < f + p /\ zaX text f p ln cl = F /\ 0 <= ln /\ ln <= line + p /\ 0 <= cl /\ cl <= col + p)
 case atStart =>
  have hlc := HLC.out; exact ⟨0, n + 1, line, col, by omega, HI0.out.1, HI0.out.2.1, HI0.out.2.2, by omega, by rw [HF.out, HN.out], by omega, by omega, by omega, by omega⟩
 case round =>
  obtain ⟨p, f, ln, cl, hpg, hit, hsc, hgr, hfp, htp, hb1, hb2, hb3, hb4⟩ := hrel; have HR := hid (And.intro hit (And.intro hsc (And.intro hgr htp))); by_cases hk : p < n
  . have hkt : p < text.size := by rw [HSZ.out]; exact hk
    have hnx := run_next_any_at (P := Tryz.prog) wr w5.heap.size text p 0 hit hkt; have hadv := zbO text p hkt; rw [HSZ.out] at hadv; have hst := htp; obtain ⟨f, rfl⟩ : ∃ f', f = f' + 1 := ⟨f - 1, by omega⟩; rw [zeJ _ _ _ _ _ hkt] at hst; generalize Utf8.decode text p = cn at hnx hadv hst; obtain ⟨c, k⟩ := cn; dsimp only at hnx hadv hst; have lbw : bs ≠ w5.heap.size := by omega
    have hscI : ScAt (wr.iterAt w5.heap.size text (p + k)) bs bt rd C (.slice (some pa) (s.size - x.long) (cap - x.long)) why err (at' + x.long) ln cl := (iterAt_other wr w5.heap.size bs text _ lbw).trans hsc; have hitI := iterAt_heap wr w5.heap.size text p (p + k) hit; have hgrI : w5.grownBy (wr.iterAt w5.heap.size text (p + k)) (some bs) := zea hgr (by omega) _ _; generalize wr.iterAt w5.heap.size text (p + k) = wj at hnx hscI hitI hgrI; have j7 := zab _ _ 7 _ _ _ hscI; have j8 := zab _ _ 8 _ _ _ hscI
    simp only [zLa, zLc, zLb] at j7 j8; have jf7 := zae _ _ 7 _ _ hscI; have jf8 := zae _ _ 8 _ _ hscI; have jl := zaa hscI; have HJ := hid (And.intro hscI (And.intro hitI hgrI)); have HST := hid hst; have HLC2 := HLC.out; have hnn := HN.out; have hw1 : IntKind.i64.wrap (cl + 1) = cl + 1 := IntWalk.i64_in _ (by omega); have hw2 : IntKind.i64.wrap (ln + 1) = ln + 1 := IntWalk.i64_in _ (by omega); have HP := hid (And.intro hpg (And.intro hfp (And.intro hb1 (And.intro hb2 (And.intro hb3 (And.intro hb4 hadv))))))
    clear hit hsc hgr htp hscI hitI hgrI hst HLC2 hnn hpg hfp hb1 hb2 hb3 hb4 hadv; by_cases hc : c = 10
    . subst hc
      go_wp2_with (fail); go_roundg (n - (p + k))
      case rel =>
       have hp := HP.out; have hst := HST.out; rw [if_pos trivial] at hst; refine ⟨p + k, f, ln + 1, 1, by omega, ?_, ?_, ?_, by omega, hst, by omega, by omega, by omega, by omega⟩
       . rw [zaf _ _ _ _ (by simpa using Ne.symm lbw), zaf _ _ _ _ (by simpa using Ne.symm lbw), zaf _ _ _ _ (by simpa using Ne.symm lbw)]; exact HJ.out.2.1
       . exact zac _ bs 8 _ _ _ _ (zac _ bs 7 _ _ _ _ (zac _ bs 8 _ _ _ _ HJ.out.1))
       . exact zad (zad (zad HJ.out.2.2 (zag _ bs 8 _)) (zag _ bs 7 _)) (zag _ bs 8 _)
      case measure => have hp := HP.out; omega
    have hc1 : ((c : Int) == 10) = false := by simp; omega
    have HC := hid hc; clear hc; go_wp2_with (fail); go_roundg (n - (p + k))
    case rel =>
     have hp := HP.out; have hst := HST.out; rw [if_neg HC.out] at hst; refine ⟨p + k, f, ln, cl + 1, by omega, ?_, ?_, ?_, by omega, hst, by omega, by omega, by omega, by omega⟩
     . rw [zaf _ _ _ _ (by simpa using Ne.symm lbw)]; exact HJ.out.2.1
     . exact zac _ bs 8 _ _ _ _ HJ.out.1
     . exact zad HJ.out.2.2 (zag _ bs 8 _)
    case measure => have hp := HP.out; omega
  have hnx := run_next_end_at (P := Tryz.prog) wr w5.heap.size text p 0 hit (by rw [HSZ.out]; exact hk)
  have hpn : p = n := by omega
  have hre := HR.out.2.2.2; rw [zfz _ _ _ _ _ (by rw [HSZ.out]; omega)] at hre; have HRE := hid hre; have u5 := (hgr.block w2.heap.size lw5 (fun e => lw2b (by cases e; rfl))).trans HS5.out.2.2; have c0 := zab _ _ 0 _ _ _ u5; have c1 := zab _ _ 1 _ _ _ u5; have c2 := zab _ _ 2 _ _ _ u5; have c3 := zab _ _ 3 _ _ _ u5; have c4 := zab _ _ 4 _ _ _ u5; simp only [zLa, zLc, zLb] at c0 c1 c2 c3 c4; have lrw : w.heap.size + 1 ≠ bs := by omega
  have l2w := zaa HB2.out.2.2; have l3w : w.heap.size + 1 < w3.heap.size := zLd l2w HB3.out.1.size; have rb : wr.heap[w.heap.size + 1]? = some (.cells #[.int .i64 0, .int .i64 0, .int .i64 0, .int .i64 0, .string ⟨#[]⟩] 28 (0, 0)) :=
   (hgr.block _ (zLd l3w HS5.out.2.1.size) (fun e => lrw (by cases e; rfl))).trans ((HS5.out.2.1.block _ l3w (fun e => lrw (by cases e; rfl))).trans ((HB3.out.1.block _ l2w).trans HB2.out.2.2))
  have r0 := zab _ _ 0 _ _ _ rb; have r1 := zab _ _ 1 _ _ _ rb; have r2 := zab _ _ 2 _ _ _ rb; have r3 := zab _ _ 3 _ _ _ rb; have r4 := zab _ _ 4 _ _ _ rb; have f0 := zae _ _ 0 _ _ rb; have f1 := zae _ _ 1 _ _ rb; have f2 := zae _ _ 2 _ _ rb; have f3 := zae _ _ 3 _ _ rb; have f4 := zae _ _ 4 _ _ rb; have lrb := zaa rb; simp only [zLa, zLc, zLb] at r0 r1 r2 r3 r4; have RB := hid rb; clear hit hsc hgr htp hpg hfp hb1 hb2 hb3 hb4 hre rb; go_wp2_with (fail)
  obtain ⟨wf, hwf⟩ : ∃ wf, wf = (((((wr.setCell ⟨w.heap.size + 1, 0, none⟩ (.int .i64 x.rule)).setCell ⟨w.heap.size + 1, 1, none⟩ (.int .i64 at')).setCell ⟨w.heap.size + 1, 2, none⟩ (.int .i64 line)).setCell ⟨w.heap.size + 1, 3, none⟩ (.int .i64 col)).setCell ⟨w.heap.size + 1, 4, none⟩ (.string text)) := ⟨_, rfl⟩; have hrf : wf.heap[w.heap.size + 1]? = some (.cells #[.int .i64 x.rule, .int .i64 at', .int .i64 line, .int .i64 col, .string text] 28 (0, 0)) := by
   rw [hwf]; exact zac _ _ 4 _ _ _ _ (zac _ _ 3 _ _ _ _ (zac _ _ 2 _ _ _ _ (zac _ _ 1 _ _ _ _ (zac _ _ 0 _ _ _ _ RB.out))))
  have hkf : ∀ b, b ≠ w.heap.size + 1 -> wf.heap[b]? = wr.heap[b]? := fun b hb => by
   rw [hwf, zaf _ _ _ _ hb, zaf _ _ _ _ hb, zaf _ _ _ _ hb, zaf _ _ _ _ hb, zaf _ _ _ _ hb]
  have hsf : wf.heap.size = wr.heap.size /\ wf.os = wr.os /\ wf.tape = wr.tape /\ wf.output = wr.output := by rw [hwf]; exact ⟨by simp, rfl, rfl, rfl⟩
  rw [<- hwf]; clear hwf; have z0 := zab _ _ 0 _ _ _ hrf; have z1 := zab _ _ 1 _ _ _ hrf; have z2 := zab _ _ 2 _ _ _ hrf; have z3 := zab _ _ 3 _ _ _ hrf; have z4 := zab _ _ 4 _ _ _ hrf; simp only [zLa, zLc, zLb] at z0 z1 z2 z3 z4; have hgrF : w.grownBy wf (some bs) := by
   have g1 : w.grownBy w3 (some bs) := zad (zah HB2.out.1 _) (zah HB3.out.1 _ |> fun h => ⟨h.os, h.tape, h.output, h.size, h.block⟩); have g2 := zad (zad g1 HS5.out.2.1) HR.out.2.2.1; exact ⟨hsf.2.1.trans g2.os, hsf.2.2.1.trans g2.tape, hsf.2.2.2.trans g2.output, by rw [hsf.1]; exact g2.size, fun b hb hn => (hkf b (by omega)).trans (g2.block b hb hn)⟩
  have hscF : ScAt wf bs bt rd C (.slice (some pa) (s.size - x.long) (cap - x.long)) why err (at' + x.long) ln cl := (hkf bs (Ne.symm lrw)).trans HR.out.2.1; have hFe : (zaX (s.extract 0 x.long) (x.long + 1) 0 line col) = (ln, cl) := by rw [<- HTX.out, <- HF.out, HRE.out]
  refine bodyPost_ret (v := .agg #[.int .i64 x.rule, .int .i64 at', .int .i64 line, .int .i64 col, .string text]) (by simp [results, Tryz.results41, go_sem, z0, z1, z2, z3, z4]) rfl ⟨by rw [HTX.out], hgrF, pa, HPA.out, ?_⟩; rw [hFe]; exact hscF
end
end Go.Proofs.YtghpmhllpaheiaaGreatDoor
