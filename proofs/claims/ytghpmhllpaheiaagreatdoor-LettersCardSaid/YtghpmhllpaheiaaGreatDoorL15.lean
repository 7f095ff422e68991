/-
  Part of the proof: Lay3, Lay4, Lay5, Lay6. No condition beyond those in the statements.
-/
import Derived.Deep.RegionLaw
import Derived.Deep.RegionHeld3
import Derived.Test.YtghpmhllpaheiaaGreatDoorL08
import Derived.Test.YtghpmhllpaheiaaGreatDoorL14
set_option linter.unusedVariables false
set_option linter.unusedSimpArgs false
set_option maxRecDepth 100000
set_option maxHeartbeats 40000000
namespace Go.Proofs.YtghpmhllpaheiaaGreatDoor
section
open Go.RowKit Go.Lib
theorem zdl {P : Program} {w : World} {ops : Array Oper} {o : Oper} {a : Act} {K : Act -> World -> Prop} {Q : Exit -> Act -> World -> Prop} {E : Prop} (hgd : o.guard = none) (s x : Operand) {t e : TypeId} {size bytes : Nat}
 (ho : o.op = .call { callee := .builtin .append, args := #[s, x], argTypes := #[t, t] }) (ET : zcp P t e size bytes)
 (v : Value) (n : Nat) (xs : List Value) (hs : a.eval s = v) (hown : w.ownsRow 0 e size v n xs)
 (ad : Addr) (m c : Nat) (news : List Value) (hx : a.eval x = .slice (some ad) m c) (hl : news.length = m * size) (hnews : ∀ j u, news[j]? = some u -> w.cell? (ad.add j) = some u) (h1 : ∀ u ∈ news, u.oneCell' = true)
 (hm : 0 < m) (hb : n + m <= 1000000000) (hbytes : bytes <= 1000)
 (h : ∀ v' w', w'.ownsRow 0 e size v' (n + m) (xs ++ news) -> w.grownBy w' v.ownBlock -> (v'.ownBlock = v.ownBlock \/ v'.ownBlock = some w.heap.size) -> K (a.put o.dst v') w') :
 if Region.wanted o (yielded ops a.tmps) = true then Oper.wp P o a w K Q else E := by
 have hw : Region.wanted o (yielded ops a.tmps) = true := by simp [Region.wanted, hgd]
 rw [if_pos hw]; obtain ⟨v', w', hr, h2, h3, h4⟩ := zdy (P := P) w ET o.type v n xs hown ad m c news hl hnews h1 hm hb hbytes; unfold Oper.wp execOp; simp only [ho, resolve, invoke, builtin, Sem.run_bind, Sem.run_pure, Result.andThen_ok, List.map_toArray, List.map_cons, List.map_nil, hs, hx, hr]; exact h v' w' h2 h3 h4
theorem zbl {w : World} {e : TypeId} {size : Nat} {v : Value} {n : Nat} {xs : List Value} (h : w.ownsRow 0 e size v (n + 1) xs) : ∃ g cap, v = .slice (some ⟨g, 0, none⟩) (n + 1) cap := by
 rcases zaG h with ⟨_, h0⟩ | ⟨g, cap, e, _⟩
 . omega
 exact ⟨g, cap, e⟩
def zcC (w : World) (tag : Nat -> Nat) (bl bm : Nat) (adr : List Nat) (s : zaz) (rule : List Int) (follow : List Set2) : Prop :=
 ∃ vs vc vf vr vb cvs bvs, KAt w tag adr vs s.knots (fun _ => false) /\ MAt w tag bl bm s.cls rule follow adr s.behind vc vf vr vb cvs bvs
structure LUpd (tag tag' : Nat -> Nat) (w w' : World) : Prop where
 os : w'.os = w.os
 tape : w'.tape = w.tape
 output : w'.output = w.output
 size : w.heap.size <= w'.heap.size
 tags : ∀ b, b < w.heap.size -> tag' b = tag b
 keep : ∀ b, b < w.heap.size -> tag b = 0 \/ tag b = 7 -> w'.heap[b]? = w.heap[b]?
theorem LUpd.refl (tag : Nat -> Nat) (w : World) : LUpd tag tag w w := ⟨rfl, rfl, rfl, Nat.le_refl _, fun _ _ => rfl, fun _ _ _ => rfl⟩
theorem LUpd.trans {t1 t2 t3 : Nat -> Nat} {a b c : World} (h : LUpd t1 t2 a b) (k : LUpd t2 t3 b c) : LUpd t1 t3 a c :=
 ⟨k.os.trans h.os, k.tape.trans h.tape, k.output.trans h.output, Nat.le_trans h.size k.size, fun x hx => (k.tags x (zLd hx h.size)).trans (h.tags x hx),
  fun x hx ht => (k.keep x (zLd hx h.size) (by rw [h.tags x hx]; exact ht)).trans (h.keep x hx ht)⟩
theorem LUpd.of_k {tag tag' : Nat -> Nat} {w w' : World} (h : KUpd tag tag' w w') : LUpd tag tag' w w' := ⟨h.os, h.tape, h.output, h.size, h.tags, fun b hb ht => h.keep b hb (by omega)⟩
theorem LUpd.of_a {tag tag' : Nat -> Nat} {c b : Nat} {w w' : World} (h : AUpd tag tag' c b w w') (hc : c ≠ 0 /\ c ≠ 7) (hb : tag b ≠ 0 /\ tag b ≠ 7) : LUpd tag tag' w w' :=
 ⟨h.os, h.tape, h.output, h.size, h.tags, fun x hx ht => h.keep x hx (by omega) (fun e => by rw [e] at ht; omega)⟩
theorem zar.upd {tag tag' : Nat -> Nat} {w w' : World} (hu : LUpd tag tag' w w') {t : Tree} {v : Value} (h : zar (fun g => tag g = 7 /\ g < w.heap.size) w t v) : zar (fun g => tag' g = 7 /\ g < w'.heap.size) w' t v :=
 h.ext (fun g hg => ⟨(hu.tags g hg.2).trans hg.1, zLd hg.2 hu.size⟩) (fun g hg hlt => hu.keep g hlt (.inr hg.1))
theorem AUpd.kat {w w' : World} {tag tag' : Nat -> Nat} {c b : Nat} {adr : List Nat} {vs : List Value} {G : List Knot} {seen : Nat -> Bool} (hu : AUpd tag tag' c b w w') (h : KAt w tag adr vs G seen) (hc : c < 10) (hb : tag b < 10) : KAt w' tag' adr vs G seen :=
 h.apart hu.tags fun x hx ht => hu.keep x hx (by omega) (fun e => by rw [e] at ht; omega)
def LayO (tag : Nat -> Nat) (bl bm : Nat) (adr : List Nat) (n0 : Nat) (rule : List Int) (follow : List Set2) (p : Nat) (s' : zaz) (w : World) (e : Ending) (w' : World) : Prop :=
 ∃ tag' ext, e = .returned (zaj ((adr ++ ext).getD p 0)) /\ zcC w' tag' bl bm (adr ++ ext) s' (rule ++ List.replicate (s'.cls.length - n0) (-1)) follow /\ p < s'.knots.length /\ LUpd tag tag' w w'
def LayC (t : Tree) : Prop := ∀ (i p : Nat) (s s' : zaz) (w : World) (tag : Nat -> Nat) (bl bm : Nat) (adr : List Nat) (rule : List Int) (follow : List Set2) (v : Value),
 zcC w tag bl bm adr s rule follow -> rule.length = s.cls.length -> s.behind.length = s.cls.length -> 0 < s.cls.length -> zar (fun g => tag g = 7 /\ g < w.heap.size) w t v -> i < s.knots.length -> layT t i s = some (p, s') -> (∀ k, (toOf s'.knots k).length <= 1000000) ->
 Calls Tryz.prog 57 #[.pointer (some ⟨bm, 0, none⟩), v, zaj (adr.getD i 0)] w (LayO tag bl bm adr s.cls.length rule follow p s' w)
theorem cls_end {wm w6 : World} {tag : Nat -> Nat} {bl bm : Nat} {cls : List (List (Int × Int))} {rule : List Int} {follow : List Set2} {adr behind : List Nat} {vc vf vr vb : Value} {cvs bvs vs : List Value} {G : List Knot}
 (hK : KAt wm tag adr vs G (fun _ => false)) (hM : MAt wm tag bl bm cls rule follow adr behind vc vf vr vb cvs bvs) (i : Nat) (hi : i < G.length) (np : Nat) (v6 : Value) (ob : Obj)
 (hrow : w6.ownsRow 0 141 1 v6 ((toOf G i).length + 1) ((toOf G i).map (fun j => zaj (adr.getD j 0)) ++ [zaj wm.heap.size]))
 (hg : ((wm.alloc (.cells #[.slice none 0 0, .int .i64 np, .bool false, .bool false] 143)).alloc ob).grownBy w6 (vs.getD i undef).ownBlock)
 (hbl : v6.ownBlock = (vs.getD i undef).ownBlock \/ v6.ownBlock = some ((wm.alloc (.cells #[.slice none 0 0, .int .i64 np, .bool false, .bool false] 143)).alloc ob).heap.size) :
 ∃ tag' vs', KAt (w6.setCell ⟨adr.getD i 0, 0, none⟩ v6) tag' (adr ++ [wm.heap.size]) vs' ((G ++ [(⟨[], np, false⟩ : Knot)]).modify i (zeL [G.length])) (fun _ => false) /\
  MAt (w6.setCell ⟨adr.getD i 0, 0, none⟩ v6) tag' bl bm cls rule follow (adr ++ [wm.heap.size]) behind vc vf vr vb cvs bvs /\ KUpd tag tag' wm (w6.setCell ⟨adr.getD i 0, 0, none⟩ v6) := by
 have hK5 := hK.push np rfl; have hU5 := KUpd.push tag wm (.cells #[.slice none 0 0, .int .i64 np, .bool false, .bool false] 143) (10 + 2 * G.length); have ea : (adr ++ [wm.heap.size]).getD i 0 = adr.getD i 0 := zas (by rw [hK.la]; exact hi); have ev : (vs ++ [Value.slice none 0 0]).getD i undef = vs.getD i undef := zas (by rw [hK.lv]; exact hi); have et : toOf (G ++ [(⟨[], np, false⟩ : Knot)]) i = toOf G i := zdI hi; have em : (toOf G i).map (fun j => zaj ((adr ++ [wm.heap.size]).getD j 0)) = (toOf G i).map fun j => zaj (adr.getD j 0) :=
  List.map_congr_left fun j hj => by rw [zas (by rw [hK.la]; exact hK.wf i j hi hj)]
 have en : ([G.length].map fun j => zaj ((adr ++ [wm.heap.size]).getD j 0)) = [zaj wm.heap.size] := by
  rw [<- hK.la, List.map_cons, List.map_nil, zaQ]
 obtain ⟨tag', h1, h2⟩ := hK5.link i (by simp; omega) [G.length] (by simp) ob v6 (by rw [et, em, en]; exact hrow) (by rw [ev]; exact hg) (by rw [ev]; exact hbl); rw [ea] at h1 h2; exact ⟨tag', _, h1, hM.apart (hU5.trans h2), hU5.trans h2⟩
theorem cls_fin {w wm w6 : World} {tag tag4 : Nat -> Nat} {bl bm n : Nat} {rule : List Int} {follow : List Set2} {adr : List Nat} {vc vf vr vb : Value} {cvs bvs vs : List Value} {s : zaz} {c : List (Int × Int)}
 (hU : LUpd tag tag4 w wm) (hK : KAt wm tag4 (adr ++ [n]) vs (s.knots ++ [⟨[], 0, false⟩]) (fun _ => false)) (hM : MAt wm tag4 bl bm (s.cls ++ [c]) (rule ++ [-1]) follow (adr ++ [n]) (s.behind ++ [s.knots.length]) vc vf vr vb cvs bvs)
 (i ai : Nat) (hi : i < s.knots.length) (hla : adr.length = s.knots.length) (hai : ai = adr.getD i 0) (v6 : Value) (ob : Obj) (vi : Value) (hvi : vi = vs.getD i undef)
 (hrow : w6.ownsRow 0 141 1 v6 ((toOf s.knots i).length + 1) ((toOf s.knots i).map (fun j => zaj ((adr ++ [n]).getD j 0)) ++ [zaj wm.heap.size]))
 (hg : ((wm.alloc (.cells #[.slice none 0 0, .int .i64 s.cls.length, .bool false, .bool false] 143)).alloc ob).grownBy w6 vi.ownBlock)
 (hbl : v6.ownBlock = vi.ownBlock \/ v6.ownBlock = some ((wm.alloc (.cells #[.slice none 0 0, .int .i64 s.cls.length, .bool false, .bool false] 143)).alloc ob).heap.size)
 (S' : zaz) (hS : S' = { (((s.push ⟨[], 0, false⟩).push ⟨[], s.cls.length, false⟩).link i [s.knots.length + 1]) with cls := s.cls ++ [c], behind := s.behind ++ [s.knots.length] }) :
 LayO tag bl bm adr s.cls.length rule follow s.knots.length S' w (.returned (zaj n)) (w6.setCell ⟨ai, 0, none⟩ v6) := by
 have e0 : (adr ++ [n]).getD i 0 = ai := by rw [zas (by rw [hla]; exact hi), hai]
 have e1 : toOf (s.knots ++ [(⟨[], 0, false⟩ : Knot)]) i = toOf s.knots i := zdI hi; subst hvi; obtain ⟨tag6, vs6, hK6, hM6, hU6⟩ := cls_end hK hM i (by simp; omega) s.cls.length v6 ob (by rw [e1]; exact hrow) hg hbl; rw [e0] at hK6 hM6 hU6; subst hS; have el : adr ++ [n, wm.heap.size] = adr ++ [n] ++ [wm.heap.size] := by simp
 refine ⟨tag6, [n, wm.heap.size], ?_, ?_, ?_, hU.trans (LUpd.of_k hU6)⟩
 . rw [el, zas (by simp; omega), <- hla, zaQ]
 . rw [el]
   refine ⟨vs6, vc, vf, vr, vb, cvs, bvs, ?_, ?_⟩
   . simpa [zaz.push, zaz.link] using hK6
   simpa [zaz.push, zaz.link] using hM6
 simp [zaz.push, zaz.link]
theorem zkW (v : Value) (w : World) : (Instr.typeAssert (.iface 200 v) 138 200 true).run Tryz.prog w = .ok (.tuple #[v, .bool true]) w := by kernel_rfl
theorem lay_cls (c : List (Int × Int)) : LayC (.cls c) := by
 intro i p s s' w tag bl bm adr rule follow v hL hrl hbl hn0 hT hi hlay hbig; simp only [zar] at hT; obtain ⟨sl, rfl, hcl, hct⟩ := hT; obtain ⟨so, sn, sc, rfl⟩ : ∃ so sn sc, sl = .slice so sn sc := by
  rcases zaG hcl with ⟨e, _⟩ | ⟨g, cap, e, _⟩
  . exact ⟨_, _, _, e⟩
  exact ⟨_, _, _, e⟩
 obtain ⟨vs, vc, vf, vr, vb, cvs, bvs, hK, hM⟩ := hL; rw [layT] at hlay; by_cases h64 : 64 < s.cls.length
 . rw [if_pos h64] at hlay; cases hlay
 rw [if_neg h64] at hlay
 cases hlay; have hnz : (s.cls.length : Int) <= 64 := by omega
 have hta := zkW (.slice so sn sc); have HK := hid hK; have HM := hid hM; have HC := hid (And.intro hcl hct); have HB := hid hbig; have HN := hid (And.intro hrl (And.intro hbl hn0)); have hcl0 := zab w bl 0 _ _ _ hM.hl; have hcm0 := zab w bm 0 _ _ _ hM.hm; simp only [zLa, zLb] at hcl0 hcm0; have hvc := zaG hM.rc; obtain ⟨gc, capc, hvce, hcc1, hcc2⟩ : ∃ g cap, vc = .slice (some ⟨g, 0, none⟩) s.cls.length cap /\ s.cls.length <= cap /\ g < w.heap.size := by
  rcases hvc with ⟨_, h0⟩ | h
  . omega
  exact h
 clear hvc hK hM hcl hct hbig hrl hbl; have HVC := hid hvce; obtain ⟨ai, hai⟩ : ∃ x, x = adr.getD i 0 := ⟨_, rfl⟩; have HAI := hid hai; rw [<- hai]; obtain ⟨S', hS'⟩ : ∃ x : zaz, x = { (((s.push ⟨[], 0, false⟩).push ⟨[], s.cls.length, false⟩).link i [s.knots.length + 1]) with cls := s.cls ++ [c], behind := s.behind ++ [s.knots.length] } := ⟨_, rfl⟩; rw [<- hS']; have HS' := hid hS'; clear hai hS'; have HRC := hid HM.out.rc; rw [hvce] at hcl0 HRC
 have HS3 : Hid (∀ w1, (w.alloc (.cells #[.slice so sn sc] 200)).grownBy w1 (some gc) -> w1.cell? ⟨bm, 0, none⟩ = some (zaj bl) /\ w1.cell? ⟨bl, 0, none⟩ = some (.slice (some ⟨gc, 0, none⟩) s.cls.length capc) /\ w1.frozen? ⟨bl, 0, none⟩ = false) := by
  refine hid fun w1 hg => ?_; have hB := (Below.refl w.heap.size w).alloc (Nat.le_refl _) (.cells #[.slice so sn sc] 200); have tgc := HM.out.t3 gc (by rw [hvce]; rfl); have k1 : w1.heap[bm]? = some (.cells #[zaj bl, vb] 136 (0, 0)) := (hg.block bm (zLd (zaa HM.out.hm) hB.size) (fun e => by cases e; rw [HM.out.tm] at tgc; cases tgc)).trans ((hB.block _ (zaa HM.out.hm)).trans HM.out.hm)
  have k2 : w1.heap[bl]? = some (.cells #[vc, vf, vr] 132 (0, 0)) := (hg.block bl (zLd (zaa HM.out.hl) hB.size) (fun e => by cases e; rw [HM.out.tl] at tgc; cases tgc)).trans ((hB.block _ (zaa HM.out.hl)).trans HM.out.hl); have e1 := zab w1 bm 0 _ _ _ k1; have e2 := zab w1 bl 0 _ _ _ k2; simp only [zLa, zLb] at e1 e2; rw [hvce] at e2; exact ⟨e1, e2, zae w1 bl 0 _ _ k2⟩
 clear hvce; have HSA := hid (HS3.out (w.alloc (.cells #[.slice so sn sc] 200)) (zaZ _ _)); have lbl := zaa HM.out.hl; have lbm := zaa HM.out.hm; have fbl := zae w bl 0 _ _ HM.out.hl; go_enter Tryz.func57, Tryz.ntmps57; go_upto_region 7 with (fail)
 go_cut [] (fun wx => ∃ tag1 v1, AUpd tag tag1 3 bl w wx /\ MAt wx tag1 bl bm (s.cls ++ [c]) rule follow adr s.behind v1 vf vr vb (cvs ++ [.slice so sn sc]) bvs)
 case first =>
  as_aux_lemma =>
  refine wp_region_noPanic ?_; refine zaA (fun w' => w'.cell? ⟨bm, 0, none⟩ = some (zaj bl) /\ w'.cell? ⟨bl, 0, none⟩ = some (.slice (some ⟨gc, 0, none⟩) s.cls.length capc)) 16 (by kernel_rfl) ⟨hcm0, hcl0⟩ (fun hS0 => ?_); refine zak 0 hS0 ?_; (try simp only [Act.put, lA, lB, lC]); refine zak 1 hS0 ?_; (try simp only [Act.put, lA, lB, lC]); refine zak 2 hS0 ?_; (try simp only [Act.put, lA, lB, lC]); refine zak 3 hS0 ?_; (try simp only [Act.put, lA, lB, lC]); refine zak 4 hS0 ?_; (try simp only [Act.put, lA, lB, lC]); refine zak 5 hS0 ?_; (try simp only [Act.put, lA, lB, lC]); refine zak 6 hS0 ?_; (try simp only [Act.put, lA, lB, lC]); refine zak 7 hS0 ?_; (try simp only [Act.put, lA, lB, lC]); refine zak 8 hS0 ?_; (try simp only [Act.put, lA, lB, lC]); refine zak 9 hS0 ?_; (try simp only [Act.put, lA, lB, lC]); refine zak 10 hS0 ?_; (try simp only [Act.put, lA, lB, lC]); refine zak 11 hS0 ?_; (try simp only [Act.put, lA, lB, lC]); refine zaq 12 (by rfl) (by kernel_rfl) (fun K hK => ?_); go_simp; refine hK.out _ _ (fun _ => ⟨HSA.out.1, HSA.out.2.1⟩) ?_; clear hK K hS0; (try simp only [Act.put, lA, lB, lC]); refine zaq 13 (by rfl) (by kernel_rfl) (fun K hK => ?_)
  refine zdl (by rfl) _ _ (by rfl) elemClass (.slice (some ⟨gc, 0, none⟩) s.cls.length capc) s.cls.length (cvs) (by rfl) (by exact (HRC.out.alloc _).drew) ⟨w.heap.size, 0, none⟩ 1 1 [.slice so sn sc] (by rfl) (by rfl) (zaD w #[.slice so sn sc] 200 w.heap.size rfl) (by simp [Value.oneCell']) (by decide) (by omega) (by decide) ?_; intro v1 w1 hrow1 hgr1 hbl1; obtain ⟨g1, cap1, rfl⟩ := zbl hrow1; have ks := HS3.out w1 ⟨hgr1.os, hgr1.tape, hgr1.output, hgr1.size, hgr1.block⟩; refine hK.out _ _ (fun _ => ⟨ks.1, ks.2.1⟩) ?_; clear hK K; (try simp only [Act.put, lA, lB, lC])
  refine zaq 14 (by rfl) (by kernel_rfl) (fun K hK => ?_); go_simp; refine hK.out _ _ (fun _ => ⟨ks.1, ks.2.1⟩) ?_; clear hK K; (try simp only [Act.put, lA, lB, lC]); refine zaq 15 (by rfl) (by kernel_rfl) (fun K hK => ?_); go_simp; refine hK.out _ _ (fun _ => ⟨ks.1, ks.2.1⟩) ?_; clear hK K; (try simp only [Act.put, lA, lB, lC]); obtain ⟨ks1, ks2, ks3⟩ := ks; refine zaq 16 (by rfl) (by kernel_rfl) (fun K hK => ?_); go_simp; refine hK.out _ _ (fun h => absurd rfl h) ?_; clear hK K; (try simp only [Act.put, lA, lB, lC]); refine zaP (by kernel_rfl) ?_
  refine NoPanic.normal ?_; go_wp2_with (fail); go_meet
  case rel => exact HM.out.pushClass (.cells #[.slice so sn sc] 200) HVC.out HC.out.1 (fun g hg => (HC.out.2 g hg).1) hrow1 hgr1 hbl1
 case rest =>
  obtain ⟨tag1, v1, hA1, hM1⟩ := hcut; have HA1 := hid hA1; have HM1 := hid hM1; have HK1 := hid (hA1.kat HK.out (by decide) (by rw [HM.out.tl]; decide)); have HT1 := hid (zar.upd (LUpd.of_a hA1 (by decide) (by rw [HM.out.tl]; decide)) (zfE HC.out.1 HC.out.2)); clear hA1 hM1 hcl0 hcm0 lbl lbm fbl; obtain ⟨gr, capr, hvre, hrr1, hrr2⟩ : ∃ g cap, vr = .slice (some ⟨g, 0, none⟩) rule.length cap /\ rule.length <= cap /\ g < wc.heap.size := by
   rcases zaG HM1.out.rr with ⟨_, h0⟩ | h
   . have := HN.out; omega
   exact h
  have HVR := hid hvre; have HRR := hid HM1.out.rr; have hcl0 := zab wc bl 2 _ _ _ HM1.out.hl; have hcm0 := zab wc bm 0 _ _ _ HM1.out.hm; simp only [zLa, zLb, zLc] at hcl0 hcm0; rw [hvre] at hcl0 HRR; have lbl := zaa HM1.out.hl; have lbm := zaa HM1.out.hm; have fbl := zae wc bl 2 _ _ HM1.out.hl
  have HS4 : Hid (∀ w1, (wc.alloc (.cells #[.int .i64 (-1)] 3)).grownBy w1 (some gr) -> w1.cell? ⟨bm, 0, none⟩ = some (zaj bl) /\ w1.cell? ⟨bl, 2, none⟩ = some (.slice (some ⟨gr, 0, none⟩) rule.length capr) /\ w1.frozen? ⟨bl, 2, none⟩ = false) := by
   refine hid fun w1 hg => ?_; have hB := (Below.refl wc.heap.size wc).alloc (Nat.le_refl _) (.cells #[.int .i64 (-1)] 3); have tgc := HM1.out.t4 gr (by rw [hvre]; rfl); have k1 := (hg.block bm (zLd (zaa HM1.out.hm) hB.size) (fun e => by cases e; rw [HM1.out.tm] at tgc; cases tgc)).trans ((hB.block _ (zaa HM1.out.hm)).trans HM1.out.hm); have k2 := (hg.block bl (zLd (zaa HM1.out.hl) hB.size) (fun e => by cases e; rw [HM1.out.tl] at tgc; cases tgc)).trans ((hB.block _ (zaa HM1.out.hl)).trans HM1.out.hl)
   have e1 := zab w1 bm 0 _ _ _ k1; have e2 := zab w1 bl 2 _ _ _ k2; simp only [zLa, zLb, zLc] at e1 e2; rw [hvre] at e2; exact ⟨e1, e2, zae w1 bl 2 _ _ k2⟩
  have hrn : rule.length + 1 <= 1000000000 := by have := HN.out; omega
  have HSB := hid (HS4.out (wc.alloc (.cells #[.int .i64 (-1)] 3)) (zaZ _ _)); clear hvre; go_upto_region 8 with (fail)
  go_cut [] (fun wx => ∃ tag2 v2, AUpd tag1 tag2 4 bl wc wx /\ MAt wx tag2 bl bm (s.cls ++ [c]) (rule ++ [-1]) follow adr s.behind v1 vf v2 vb (cvs ++ [.slice so sn sc]) bvs)
  case first =>
   as_aux_lemma =>
   refine wp_region_noPanic ?_; refine zaA (fun w' => w'.cell? ⟨bm, 0, none⟩ = some (zaj bl) /\ w'.cell? ⟨bl, 2, none⟩ = some (.slice (some ⟨gr, 0, none⟩) rule.length capr)) 15 (by kernel_rfl) ⟨hcm0, hcl0⟩ (fun hS0 => ?_); refine zak 0 hS0 ?_; (try simp only [Act.put, lA, lB, lC]); refine zak 1 hS0 ?_; (try simp only [Act.put, lA, lB, lC]); refine zak 2 hS0 ?_; (try simp only [Act.put, lA, lB, lC]); refine zak 3 hS0 ?_; (try simp only [Act.put, lA, lB, lC]); refine zak 4 hS0 ?_; (try simp only [Act.put, lA, lB, lC]); refine zak 5 hS0 ?_; (try simp only [Act.put, lA, lB, lC]); refine zak 6 hS0 ?_; (try simp only [Act.put, lA, lB, lC]); refine zak 7 hS0 ?_; (try simp only [Act.put, lA, lB, lC]); refine zak 8 hS0 ?_; (try simp only [Act.put, lA, lB, lC]); refine zak 9 hS0 ?_; (try simp only [Act.put, lA, lB, lC]); refine zak 10 hS0 ?_; (try simp only [Act.put, lA, lB, lC]); refine zaq 11 (by rfl) (by kernel_rfl) (fun K hK => ?_); go_simp; refine hK.out _ _ (fun _ => ⟨HSB.out.1, HSB.out.2.1⟩) ?_; clear hK K hS0; (try simp only [Act.put, lA, lB, lC]); refine zaq 12 (by rfl) (by kernel_rfl) (fun K hK => ?_)
   refine zdl (by rfl) _ _ (by rfl) elemInt (.slice (some ⟨gr, 0, none⟩) rule.length capr) rule.length (rule.map (Value.int .i64)) (by rfl) (by exact (HRR.out.alloc _).drew) ⟨wc.heap.size, 0, none⟩ 1 1 [.int .i64 (-1)] (by rfl) (by rfl) (zaD wc #[.int .i64 (-1)] 3 wc.heap.size rfl) (by simp [Value.oneCell']) (by decide) hrn (by decide) ?_; intro v1 w1 hrow1 hgr1 hbl1; obtain ⟨g1, cap1, rfl⟩ := zbl hrow1; have ks := HS4.out w1 ⟨hgr1.os, hgr1.tape, hgr1.output, hgr1.size, hgr1.block⟩; refine hK.out _ _ (fun _ => ⟨ks.1, ks.2.1⟩) ?_; clear hK K
   (try simp only [Act.put, lA, lB, lC]); refine zaq 13 (by rfl) (by kernel_rfl) (fun K hK => ?_); go_simp; refine hK.out _ _ (fun _ => ⟨ks.1, ks.2.1⟩) ?_; clear hK K; (try simp only [Act.put, lA, lB, lC]); refine zaq 14 (by rfl) (by kernel_rfl) (fun K hK => ?_); go_simp; refine hK.out _ _ (fun _ => ⟨ks.1, ks.2.1⟩) ?_; clear hK K; (try simp only [Act.put, lA, lB, lC]); obtain ⟨ks1, ks2, ks3⟩ := ks; refine zaq 15 (by rfl) (by kernel_rfl) (fun K hK => ?_); go_simp; refine hK.out _ _ (fun h => absurd rfl h) ?_; clear hK K; (try simp only [Act.put, lA, lB, lC])
   refine zaP (by kernel_rfl) ?_; refine NoPanic.normal ?_; go_wp2_with (fail); go_meet
   case rel => exact HM1.out.pushRule (.cells #[.int .i64 (-1)] 3) HVR.out hrow1 hgr1 hbl1
  case rest =>
   obtain ⟨tag2, v2, hA2, hM2⟩ := hcut; have HA2 := hid hA2; have HM2 := hid hM2; have HK2 := hid (hA2.kat HK1.out (by decide) (by rw [HM1.out.tl]; decide)); clear hA2 hM2 hcl0 hcm0 lbl lbm fbl; have HK3 := hid (HK2.out.push 0 rfl); have HA3 := hid (KUpd.push tag2 wc (.cells #[.slice none 0 0, .int .i64 (0 : Nat), .bool false, .bool false] 143) (10 + 2 * s.knots.length)); have HM3 := hid (HM2.out.apart (ext := [wc.heap.size]) HA3.out); generalize hwk : wc.alloc (.cells #[.slice none 0 0, .int .i64 (0 : Nat), .bool false, .bool false] 143) = wk at HK3 HA3 HM3
   generalize zaR tag2 wc.heap.size (10 + 2 * s.knots.length) = tag3 at HK3 HA3 HM3; have HWK := hid hwk; clear hwk; go_upto_region 10 with (fail)
   have hwk := HWK.out; rw [Int.ofNat_zero] at hwk; rw [hwk]; clear hwk; have hcm1 := zab wk bm 1 _ _ _ HM3.out.hm; simp only [zLa, zLb, zLc] at hcm1; have lbm := zaa HM3.out.hm; have fbm := zae wk bm 1 _ _ HM3.out.hm; have hbn : s.behind.length + 1 <= 1000000000 := by have := HN.out; omega
   have HS5 : Hid (∀ w1, (wk.alloc (.cells #[zaj wc.heap.size] 141)).grownBy w1 vb.ownBlock -> w1.cell? ⟨bm, 1, none⟩ = some vb /\ w1.frozen? ⟨bm, 1, none⟩ = false /\ bm < w1.heap.size) :=
    hid fun w1 hg => zcq HM3.out.hm (fun e => by have := HM3.out.t5 bm e; rw [HM3.out.tm] at this; cases this) hg
   go_upto_region 11 with (at_builtin; refine zan _ rfl _ _ rfl zcl _ _ _ rfl (by exact (HM3.out.rb.alloc _)) ⟨_, 0, none⟩ 1 1 [zaj wc.heap.size] rfl rfl (zaD _ #[zaj wc.heap.size] _ _ (by simp)) (by simp [Value.oneCell']) (by decide) hbn (by decide) ?_; intro v4 w4 hrow4 hgr4 hbl4; obtain ⟨g4, cap4, rfl⟩ := zbl hrow4; obtain ⟨k1, k2, k3⟩ := HS5.out _ hgr4)
   have hadr : (adr ++ [wc.heap.size]).getD s.knots.length 0 = wc.heap.size := by rw [<- HK.out.la, zaQ]
   have HADR := hid hadr; clear hadr; obtain ⟨tag4, v5, hA4, hM4⟩ := HM3.out.pushBehind (w1 := w4) (V := vb) (j := s.knots.length) (by rw [List.length_append, HK.out.la]; simp) (.cells #[zaj wc.heap.size] 141) rfl (by rw [HADR.out]; exact hrow4) hgr4 hbl4; rw [HADR.out] at hM4; have HA4 := hid hA4; have HM4 := hid hM4; have HK4 := hid (hA4.kat HK3.out (by decide) (by rw [HM3.out.tm]; decide)); clear hA4 hM4 hrow4 hgr4 hbl4 k1 k2 k3 hcm1 lbm fbm; generalize w4.setCell ⟨bm, 1, none⟩ (.slice (some ⟨g4, 0, none⟩) (s.behind.length + 1) cap4) = wm at HA4 HM4 HK4 ⊢
   have hln : (s.knots ++ [(⟨[], 0, false⟩ : Knot)]).length = s.knots.length + 1 := by simp
   have hi5 : i < (s.knots ++ [(⟨[], 0, false⟩ : Knot)]).length := by rw [hln]; omega
   have hga : (adr ++ [wc.heap.size]).getD i 0 = ai := by rw [zas (by rw [HK.out.la]; exact hi), HAI.out]
   have HGA := hid hga; have HKC := hid (HK4.out.cell i hi5); rw [hga] at HKC; have hk0 := zab wm ai 0 _ _ _ HKC.out; simp only [zLa, zLb] at hk0; have fk0 := zae wm ai 0 _ _ HKC.out; have lk0 := zaa HKC.out; have HR5 := hid (HK4.out.row i hi5); have HTV := hid (HK4.out.tv i · hi5); have HTA := hid (HK4.out.ta i hi5); rw [hga] at HTA; have hto : toOf (s.knots ++ [(⟨[], 0, false⟩ : Knot)]) i = toOf s.knots i := zdI hi; rw [hto] at HR5
   obtain ⟨vi, hvi⟩ : ∃ x, x = (vs ++ [Value.slice none 0 0]).getD i undef := ⟨_, rfl⟩; rw [<- hvi] at hk0 HR5 HTV HKC; have HVI := hid hvi; have hsz5 : (toOf s.knots i).length + 1 <= 1000000000 := by
    have h1 := HB.out i; have h2 : toOf (((s.knots ++ [(⟨[], 0, false⟩ : Knot)]) ++ [(⟨[], s.cls.length, false⟩ : Knot)]).modify i (zeL [s.knots.length + 1])) i = toOf s.knots i ++ [s.knots.length + 1] := by
     rw [zd7 (by simp; omega), zdI (by simp; omega), hto]
    have h3 : ((toOf s.knots i) ++ [s.knots.length + 1]).length <= 1000000 := by rw [<- h2]; exact h1
    simp at h3; omega
   have HS6 : Hid (∀ w1, ((wm.alloc (.cells #[.slice none 0 0, .int .i64 s.cls.length, .bool false, .bool false] 143)).alloc (.cells #[zaj wm.heap.size] 141)).grownBy w1 vi.ownBlock -> w1.cell? ⟨ai, 0, none⟩ = some vi /\ w1.frozen? ⟨ai, 0, none⟩ = false /\ ai < w1.heap.size) := by
    refine hid fun w1 hg => ?_; have hb := (Below.refl wm.heap.size wm).alloc (Nat.le_refl _) (.cells #[.slice none 0 0, .int .i64 s.cls.length, .bool false, .bool false] 143); exact zcq ((hb.block _ lk0).trans HKC.out) (fun e => by have := HTV.out ai e; rw [HTA.out] at this; omega) hg
   clear hga hvi hto hln; go_wp2_with (at_builtin; refine zan _ rfl _ _ rfl zcl _ _ _ rfl (by exact ((HR5.out.alloc _).alloc _)) ⟨_, 0, none⟩ 1 1 [zaj wm.heap.size] rfl rfl (zaD _ #[zaj wm.heap.size] _ _ (by simp)) (by simp [Value.oneCell']) (by decide) hsz5 (by decide) ?_; intro v6 w6 hrow6 hgr6 hbl6; obtain ⟨g6, cap6, rfl⟩ := zbl hrow6; obtain ⟨k1, k2, k3⟩ := HS6.out _ hgr6); go_ret
   have hU : LUpd tag tag4 w wm := (LUpd.of_a HA1.out (by decide) (by rw [HM.out.tl]; decide)).trans ((LUpd.of_a HA2.out (by decide) (by rw [HM1.out.tl]; decide)).trans ((LUpd.of_k HA3.out).trans (LUpd.of_a HA4.out (by decide) (by rw [HM3.out.tm]; decide)))); exact cls_fin hU HK4.out HM4.out i ai hi HK.out.la HAI.out _ (.cells #[zaj wm.heap.size] 141) vi HVI.out hrow6 hgr6 hbl6 S' HS'.out
end
section
open Go.RowKit Go.Lib
theorem zg1 (v : Value) (w : World) : (Instr.typeAssert (.iface 202 v) 138 200 true).run Tryz.prog w = .ok (.tuple #[.slice none 0 0, .bool false]) w := by kernel_rfl
theorem zle (v : Value) (w : World) : (Instr.typeAssert (.iface 202 v) 138 202 true).run Tryz.prog w = .ok (.tuple #[v, .bool true]) w := by kernel_rfl
theorem zgX (v : Value) (w : World) : (Instr.typeAssert (.iface 206 v) 138 200 true).run Tryz.prog w = .ok (.tuple #[.slice none 0 0, .bool false]) w := by kernel_rfl
theorem zg8 (v : Value) (w : World) : (Instr.typeAssert (.iface 206 v) 138 202 true).run Tryz.prog w = .ok (.tuple #[.slice none 0 0, .bool false]) w := by kernel_rfl
theorem zff (v : Value) (w : World) : (Instr.typeAssert (.iface 206 v) 138 204 true).run Tryz.prog w = .ok (.tuple #[.agg #[.nilIface, .nilIface], .bool false]) w := by kernel_rfl
theorem zkF (v : Value) (w : World) : (Instr.typeAssert (.iface 206 v) 138 206 true).run Tryz.prog w = .ok (.tuple #[v, .bool true]) w := by kernel_rfl
theorem zil (v : Value) (w : World) : (Instr.typeAssert (.iface 204 v) 138 200 true).run Tryz.prog w = .ok (.tuple #[.slice none 0 0, .bool false]) w := by kernel_rfl
theorem zh5 (v : Value) (w : World) : (Instr.typeAssert (.iface 204 v) 138 202 true).run Tryz.prog w = .ok (.tuple #[.slice none 0 0, .bool false]) w := by kernel_rfl
theorem zin (v : Value) (w : World) : (Instr.typeAssert (.iface 204 v) 138 204 true).run Tryz.prog w = .ok (.tuple #[v, .bool true]) w := by kernel_rfl
theorem zgf (t : Tree) (l : List Tree) (i : Nat) (s : zaz) : layR (t :: l) i s = match layT t i s with | none => none | some (p, s2) => layR l p s2 := by rw [layR]; rfl
def zaE (s s' : zaz) : Prop := s.knots.length <= s'.knots.length /\ s.cls.length <= s'.cls.length /\ s'.behind.length + s.cls.length = s.behind.length + s'.cls.length /\ ∀ k, (toOf s.knots k).length <= (toOf s'.knots k).length
theorem zaE.refl (s : zaz) : zaE s s := ⟨Nat.le_refl _, Nat.le_refl _, rfl, fun _ => Nat.le_refl _⟩
theorem zaE.trans {a b c : zaz} (h : zaE a b) (k : zaE b c) : zaE a c := by
 obtain ⟨h1, h2, h3, h4⟩ := h; obtain ⟨k1, k2, k3, k4⟩ := k; exact ⟨by omega, by omega, by omega, fun i => Nat.le_trans (h4 i) (k4 i)⟩
theorem zaE.push (s : zaz) (k : Knot) : zaE s (s.push k) := by
 refine ⟨by simp [zaz.push], Nat.le_refl _, rfl, fun i => ?_⟩; show (toOf s.knots i).length <= (toOf (s.knots ++ [k]) i).length
 rcases Nat.lt_or_ge i s.knots.length with h | h
 . rw [zdI h]; exact Nat.le_refl _
 unfold toOf; rw [List.getElem?_eq_none h]; simp
theorem zaE.link (s : zaz) (i : Nat) (l : List Nat) : zaE s (s.link i l) := by
 refine ⟨by simp [zaz.link], Nat.le_refl _, rfl, fun j => ?_⟩; show (toOf s.knots j).length <= (toOf (s.knots.modify i (zeL l)) j).length; by_cases e : i = j
 . subst e
   rcases Nat.lt_or_ge i s.knots.length with h | h
   . rw [zd7 h]; simp
   unfold toOf; rw [List.getElem?_eq_none h]; simp
 rw [zf3 e]; exact Nat.le_refl _
mutual
theorem zbr : ∀ (t : Tree) (i p : Nat) (s s' : zaz), layT t i s = some (p, s') -> zaE s s'
 | .cls c, i, p, s, s', h => by
  rw [layT] at h; split at h
  . cases h
  . cases h
    have h1 := ((zaE.push s ⟨[], 0, false⟩).trans (zaE.push _ ⟨[], s.cls.length, false⟩)).trans (zaE.link _ i [s.knots.length + 1]); exact ⟨h1.1, by simp, by simp; omega, h1.2.2.2⟩
 | .row l, i, p, s, s', h => by
  rw [layT] at h; exact zfF l i p s s' h
 | .either a b, i, p, s, s', h => by
  rw [layT] at h; split at h
  . cases h
  . rename_i p1 s2 e1
    split at h
    . cases h
    . rename_i q s3 e2
      cases h; have h0 := (((zaE.push s ⟨[], 0, false⟩).trans (zaE.push _ ⟨[], 0, false⟩)).trans (zaE.push _ ⟨[], 0, false⟩)).trans (zaE.link _ i [s.knots.length, s.knots.length + 1]); exact h0.trans ((zbr a _ _ _ _ e1).trans ((zbr b _ _ _ _ e2).trans ((zaE.link _ _ _).trans (zaE.link _ _ _))))
 | .rep t m o, i, p, s, s', h => by
  rw [layT] at h; split at h
  . cases h
  rename_i p1 s2 e1
  cases h; have h0 := ((zaE.push s ⟨[], 0, false⟩).trans (zaE.push _ ⟨[], 0, false⟩)).trans (zaE.link _ i [s.knots.length]); refine h0.trans ((zbr t _ _ _ _ e1).trans ?_); cases o <;> by_cases hm : m = 0 <;> simp only [hm, if_true, if_false, Bool.false_eq_true]
  . exact ((zaE.link _ _ _).trans (zaE.link _ _ _)).trans (zaE.link _ _ _)
  . exact (zaE.link _ _ _).trans (zaE.link _ _ _)
  . exact (zaE.link _ _ _).trans (zaE.link _ _ _)
  exact zaE.link _ _ _
theorem zfF : ∀ (l : List Tree) (i p : Nat) (s s' : zaz), layR l i s = some (p, s') -> zaE s s'
 | [], i, p, s, s', h => by
  rw [layR] at h; cases h; exact zaE.refl _
 | t :: l, i, p, s, s', h => by
  rw [zgf] at h; cases e : layT t i s with
  | none => rw [e] at h; cases h
  | some x =>
   obtain ⟨q, s2⟩ := x; rw [e] at h; exact (zbr t _ _ _ _ e).trans (zfF l _ _ _ _ h)
end
theorem zkb (rule : List Int) (a b c : Nat) (h1 : a <= b) (h2 : b <= c) : (rule ++ List.replicate (b - a) (-1 : Int)) ++ List.replicate (c - b) (-1) = rule ++ List.replicate (c - a) (-1) := by
 rw [List.append_assoc, List.replicate_append_replicate]; congr 2; omega
structure RowSt (l : List Tree) (p : Nat) (s s' : zaz) (tag : Nat -> Nat) (bl bm : Nat) (adr : List Nat) (rule : List Int) (follow : List Set2) (w : World) (k pk : Nat) (sk : zaz) (tagk : Nat -> Nat) (ext : List Nat) (wr : World) : Prop where
 lay : zcC wr tagk bl bm (adr ++ ext) sk (rule ++ List.replicate (sk.cls.length - s.cls.length) (-1)) follow
 lt : pk < sk.knots.length
 upd : LUpd tag tagk w wr
 rest : layR (l.drop k) pk sk = some (p, s')
 later : zaE s sk
theorem lay_row (l : List Tree) (ih : ∀ t ∈ l, LayC t) : LayC (.row l) := by
 intro i p s s' w tag bl bm adr rule follow v hL hrl hbl hn0 hT hi hlay hbig; rw [layT] at hlay; simp only [zar] at hT; obtain ⟨sl, vs, rfl, h2, h3, h4⟩ := hT; have IH := hid ih; have H2 := hid h2; have H3 := hid h3; have H4 := hid h4; have HB := hid hbig; have HN := hid (And.intro hrl (And.intro hbl hn0)); have hstart : RowSt l p s s' tag bl bm adr rule follow w 0 i s tag [] w := ⟨by simpa using hL, hi, LUpd.refl _ _, by simpa using hlay, zaE.refl _⟩; have HST := hid hstart; have hform := zaG h2; have hmax : (l.length : Int) <= 9223372036854775807 := by
  have : l.length <= maxLen := by rcases h2.2 with ⟨_, h⟩ | ⟨_, _, _, _, _, _, h, h', _⟩ <;> omega
  unfold maxLen at this; omega
 obtain ⟨ai, hai⟩ : ∃ x, x = adr.getD i 0 := ⟨_, rfl⟩; rw [<- hai]; have HAI := hid hai; clear ih h2 h3 h4 hL hrl hbl hlay hbig hstart hai; have ha1 := fun v => zg1 v; have ha2 := fun v => zle v
 rcases hform with ⟨rfl, hn⟩ | ⟨g, cap, rfl, hcap, hg⟩
 . have hl0 : l = [] := List.eq_nil_of_length_eq_zero hn
   subst hl0; have hr := HST.out.rest; simp only [List.drop_nil, layR] at hr; cases hr; go_enter Tryz.func57, Tryz.ntmps57; go_wp2_with (fail); refine wp_loop_rounds 1 ?_; rw [rounds_succ]; go_wp2_with (fail); go_ret; exact ⟨tag, [], by rw [List.append_nil, <- HAI.out]; rfl, by simpa using HST.out.lay, hi, LUpd.refl _ _⟩
 go_enter Tryz.func57, Tryz.ntmps57
 go_wp2_with (fail); go_loopw [2, 99] (fun s2 s99 wr => ∃ (k pk : Nat) (sk : zaz) (tagk : Nat -> Nat) (ext : List Nat) (ak : Nat), s99 = .int .i64 k /\ k <= l.length /\ s2 = zaj ak /\ ak = (adr ++ ext).getD pk 0 /\ RowSt l p s s' tag bl bm adr rule follow w k pk sk tagk ext wr) (fun _ s99 _ => l.length - (RowKit.intOf s99).toNat)
 case atStart => exact ⟨0, i, s, tag, [], ai, rfl, by omega, rfl, by rw [List.append_nil]; exact HAI.out, HST.out⟩
 case round =>
  obtain ⟨k, pk, sk, tagk, ext, ak, rfl, hk, rfl, hak, hR⟩ := hrel; have HR := hid hR; have HAK := hid hak; clear hR hak; by_cases hlt : k < l.length
  . have hz : (k : Int) < (l.length : Int) := by omega
    obtain ⟨t, ht⟩ : ∃ t, l[k]? = some t := ⟨l[k], zLe hlt⟩; obtain ⟨u, hu, hu2⟩ := H4.out.get k t ht; have hdrop : l.drop k = t :: l.drop (k + 1) := by rw [List.drop_eq_getElem_cons hlt]; congr 1; rw [zLe hlt] at ht; exact Option.some.inj ht
    have hrest := HR.out.rest; rw [hdrop, zgf] at hrest; cases hx : layT t pk sk with
    | none => rw [hx] at hrest; cases hrest
    | some qs =>
     obtain ⟨q, s2⟩ := qs; rw [hx] at hrest; simp only at hrest; have HRE := hid hrest; have HX := hid hx; have hu3 := zar.upd HR.out.upd hu2; have hc0 : wr.cell? ⟨g, k, none⟩ = some u := by
      have hrow : wr.ownsRow 0 138 1 (.slice (some ⟨g, 0, none⟩) l.length cap) l.length vs := zaI H2.out fun b hb => HR.out.upd.keep b (H3.out b hb).2 (.inr (H3.out b hb).1); exact zax hrow _ _ hu
     obtain ⟨x, rfl, _⟩ := zcP t u _ wr hu3; have HU3 := hid hu3; have hl1 := zfF _ _ _ _ _ hrest; have hlt1 := zbr _ _ _ _ _ hx; have HLT := hid (And.intro hl1 hlt1); have hcall := IH.out t (List.mem_of_getElem? ht) pk q sk s2 wr tagk bl bm (adr ++ ext) (rule ++ List.replicate (sk.cls.length - s.cls.length) (-1)) follow _ HR.out.lay
      (by have := HN.out; have := HR.out.later; unfold zaE at this; simp; omega) (by have := HN.out; have := HR.out.later; unfold zaE at this; omega) (by have := HN.out; have := HR.out.later; unfold zaE at this; omega) hu3 HR.out.lt hx
      (fun j => Nat.le_trans (hl1.2.2.2 j) (HB.out j))
     rw [<- HAK.out] at hcall; have HCALL := hid hcall; clear hx hrest hu2 hu3 hdrop ht hu hl1 hlt1 hcall; go_wp2_with (fail); refine HCALL.out.mono ?_; rintro e w2 ⟨tag2, ext2, rfl, hL2, hq, hU2⟩; have HL2 := hid hL2; have HU2 := hid hU2; clear hL2 hU2; obtain ⟨a2, ha2'⟩ : ∃ y, y = (adr ++ ext ++ ext2).getD q 0 := ⟨_, rfl⟩; rw [<- ha2']; have HA2 := hid ha2'; clear ha2'; go_wp2_with (fail); go_roundw
     case rel =>
      refine ⟨k + 1, q, s2, tag2, ext ++ ext2, a2, by go_num, by omega, rfl, by rw [<- List.append_assoc]; exact HA2.out, ?_, hq, HR.out.upd.trans HU2.out, HRE.out, HR.out.later.trans HLT.out.2⟩; have hl2 := HL2.out; rw [zkb rule _ _ _ (HR.out.later.2.1) HLT.out.2.2.1] at hl2; rw [<- List.append_assoc]; exact hl2
     case measure => (simp [RowKit.intOf] <;> omega)
  have hz : ¬ (k : Int) < (l.length : Int) := by omega
  have hkl : k = l.length := by omega
  have hr := HR.out.rest; rw [hkl, List.drop_length, layR] at hr; cases hr; have HKL := hid hkl; clear hkl; go_wp2_with (fail); go_ret; exact ⟨tagk, ext, by rw [<- HAK.out]; rfl, HR.out.lay, HR.out.lt, HR.out.upd⟩
structure Ready (w : World) (tag : Nat -> Nat) (adr : List Nat) (G : List Knot) (i ai : Nat) (vi : Value) : Prop where
 cell : w.cell? ⟨ai, 0, none⟩ = some vi
 free : w.frozen? ⟨ai, 0, none⟩ = false
 lt : ai < w.heap.size
 row : w.ownsRow 0 141 1 vi (toOf G i).length ((toOf G i).map fun j => zaj (adr.getD j 0))
 kept : ∀ ob w1, (w.alloc ob).grownBy w1 vi.ownBlock -> w1.cell? ⟨ai, 0, none⟩ = some vi /\ w1.frozen? ⟨ai, 0, none⟩ = false /\ ai < w1.heap.size
theorem KAt.ready {w : World} {tag : Nat -> Nat} {adr : List Nat} {vs : List Value} {G : List Knot} {seen : Nat -> Bool} (h : KAt w tag adr vs G seen) (i : Nat) (hi : i < G.length) : Ready w tag adr G i (adr.getD i 0) (vs.getD i undef) := by
 have hc := h.cell i hi; have h0 := zab w (adr.getD i 0) 0 _ _ _ hc; simp only [zLa, zLb] at h0; refine ⟨h0, zae w _ 0 _ _ hc, zaa hc, h.row i hi, fun ob w1 hg => ?_⟩; exact zcq hc (fun e => by have := h.tv i _ hi e; rw [h.ta i hi] at this; omega) hg
structure zbU (tag : Nat -> Nat) (bl bm : Nat) (w : World) (s : zaz) (rule : List Int) (follow : List Set2) (adr : List Nat) (tagk : Nat -> Nat) (wr : World) : Prop where
 lay : zcC wr tagk bl bm adr s rule follow
 upd : LUpd tag tagk w wr
theorem zbU.alloc {tag : Nat -> Nat} {bl bm : Nat} {w : World} {s : zaz} {rule : List Int} {follow : List Set2} {adr : List Nat} {tagk : Nat -> Nat} {wr : World} (h : zbU tag bl bm w s rule follow adr tagk wr) (o : Obj) : zbU tag bl bm w s rule follow adr tagk (wr.alloc o) := by
 obtain ⟨vs, vc, vf, vr, vb, cvs, bvs, hK, hM⟩ := h.lay; have hb := (Below.refl wr.heap.size wr).alloc (Nat.le_refl _) o; have hk := KUpd.below (tag := tagk) hb; exact ⟨⟨vs, vc, vf, vr, vb, cvs, bvs, hK.below hb, by have := hM.apart (ext := []) hk; rwa [List.append_nil] at this⟩, h.upd.trans (LUpd.of_k hk)⟩
theorem zbU.push {tag : Nat -> Nat} {bl bm : Nat} {w : World} {s : zaz} {rule : List Int} {follow : List Set2} {adr : List Nat} {tagk : Nat -> Nat} {wr : World} (h : zbU tag bl bm w s rule follow adr tagk wr) :
 ∃ tag', zbU tag bl bm w (s.push ⟨[], 0, false⟩) rule follow (adr ++ [wr.heap.size]) tag' (wr.alloc (.cells #[.slice none 0 0, .int .i64 0, .bool false, .bool false] 143)) := by
 obtain ⟨vs, vc, vf, vr, vb, cvs, bvs, hK, hM⟩ := h.lay; have hU := KUpd.push tagk wr (.cells #[.slice none 0 0, .int .i64 (0 : Nat), .bool false, .bool false] 143) (10 + 2 * s.knots.length); exact ⟨_, ⟨⟨_, vc, vf, vr, vb, cvs, bvs, hK.push 0 rfl, hM.apart hU⟩, h.upd.trans (LUpd.of_k hU)⟩⟩
theorem zbU.len {tag : Nat -> Nat} {bl bm : Nat} {w : World} {s : zaz} {rule : List Int} {follow : List Set2} {adr : List Nat} {tagk : Nat -> Nat} {wr : World} (h : zbU tag bl bm w s rule follow adr tagk wr) : adr.length = s.knots.length := by
 obtain ⟨_, _, _, _, _, _, _, hK, _⟩ := h.lay; exact hK.la
theorem zbU.ready {tag : Nat -> Nat} {bl bm : Nat} {w : World} {s : zaz} {rule : List Int} {follow : List Set2} {adr : List Nat} {tagk : Nat -> Nat} {wr : World} (h : zbU tag bl bm w s rule follow adr tagk wr) (i : Nat) (hi : i < s.knots.length) :
 ∃ vi, Ready wr tagk adr s.knots i (adr.getD i 0) vi /\ ∀ (l : List Nat), (∀ j ∈ l, j < s.knots.length) -> ∀ (ob : Obj) (w1 : World) (v' : Value), w1.ownsRow 0 141 1 v' ((toOf s.knots i).length + l.length) ((toOf s.knots i).map (fun j => zaj (adr.getD j 0)) ++ l.map fun j => zaj (adr.getD j 0)) ->
  (wr.alloc ob).grownBy w1 vi.ownBlock -> (v'.ownBlock = vi.ownBlock \/ v'.ownBlock = some (wr.alloc ob).heap.size) -> ∃ tag', zbU tag bl bm w (s.link i l) rule follow adr tag' (w1.setCell ⟨adr.getD i 0, 0, none⟩ v') := by
 obtain ⟨vs, vc, vf, vr, vb, cvs, bvs, hK, hM⟩ := h.lay; refine ⟨_, hK.ready i hi, fun l hl ob w1 v' hrow hg hbl => ?_⟩; obtain ⟨tag', h1, h2⟩ := hK.link i hi l hl ob v' hrow hg hbl; exact ⟨tag', ⟨⟨_, vc, vf, vr, vb, cvs, bvs, h1, by have := hM.apart (ext := []) h2; rwa [List.append_nil] at this⟩, h.upd.trans (LUpd.of_k h2)⟩⟩
end
section
open Go.RowKit Go.Lib
theorem zbU.alloc0 {tag : Nat -> Nat} {bl bm : Nat} {w : World} {s : zaz} {rule : List Int} {follow : List Set2} {adr : List Nat} {tagk : Nat -> Nat} {wr : World} (h : zbU tag bl bm w s rule follow adr tagk wr) (o : Obj) :
 zbU tag bl bm w s rule follow adr (zaR tagk wr.heap.size 0) (wr.alloc o) := by
 obtain ⟨vs, vc, vf, vr, vb, cvs, bvs, hK, hM⟩ := h.lay; have hk := KUpd.push tagk wr o 0; have hb := (Below.refl wr.heap.size wr).alloc (Nat.le_refl _) o; refine ⟨⟨vs, vc, vf, vr, vb, cvs, bvs, hK.apart hk.tags fun b hx _ => hb.block b hx, by have := hM.apart (ext := []) hk; rwa [List.append_nil] at this⟩, h.upd.trans (LUpd.of_k hk)⟩
theorem zbU.push2 {tag : Nat -> Nat} {bl bm : Nat} {w : World} {s : zaz} {rule : List Int} {follow : List Set2} {adr : List Nat} {tagk : Nat -> Nat} {wr : World} (h : zbU tag bl bm w s rule follow adr tagk wr) :
 ∃ tag', zbU tag bl bm w (s.push ⟨[], 0, false⟩) rule follow (adr ++ [wr.heap.size]) tag' (wr.alloc (.cells #[.slice none 0 0, .int .i64 0, .bool false, .bool false] 143)) /\ ∀ b, b < wr.heap.size -> tag' b = tagk b := by
 obtain ⟨vs, vc, vf, vr, vb, cvs, bvs, hK, hM⟩ := h.lay; have hU := KUpd.push tagk wr (.cells #[.slice none 0 0, .int .i64 (0 : Nat), .bool false, .bool false] 143) (10 + 2 * s.knots.length); exact ⟨_, ⟨⟨_, vc, vf, vr, vb, cvs, bvs, hK.push 0 rfl, hM.apart hU⟩, h.upd.trans (LUpd.of_k hU)⟩, hU.tags⟩
theorem zgq {tag tag3 tagz : Nat -> Nat} {bl bm n0 c3 c4 p : Nat} {w w3 wz : World} {s' : zaz} {rule : List Int} {follow : List Set2} {adr adr4 : List Nat} (h : zbU tag3 bl bm w3 s' (rule ++ List.replicate (c4 - c3) (-1)) follow adr4 tagz wz) (hU : LUpd tag tag3 w w3)
 (he : ∃ ext, adr4 = adr ++ ext) (hc4 : s'.cls.length = c4) (hc3 : c3 = n0) (hp : p < s'.knots.length) (b : Nat) (hb : b = adr4.getD p 0) : LayO tag bl bm adr n0 rule follow p s' w (.returned (zaj b)) wz := by
 obtain ⟨ext, rfl⟩ := he; subst hc4 hc3 hb; exact ⟨tagz, ext, rfl, h.lay, hp, hU.trans h.upd⟩
theorem lay_rep (t : Tree) (m : Int) (o : Bool) (ih : LayC t) : LayC (.rep t m o) := by
 intro i p s s' w tag bl bm adr rule follow v hL hrl hbl hn0 hT hi hlay hbig; rw [layT] at hlay; have hlater := zbr (.rep t m o) i p s s' (by rw [layT]; exact hlay); simp only [zar] at hT; obtain ⟨u, rfl, hu⟩ := hT; obtain ⟨x, rfl, _⟩ := zcP t u _ w hu; obtain ⟨ai, hai⟩ : ∃ x, x = adr.getD i 0 := ⟨_, rfl⟩; rw [<- hai]; have ha1 := fun v => zgX v; have ha2 := fun v => zg8 v; have ha3 := fun v => zff v; have ha4 := fun v => zkF v; have N0 : zbU tag bl bm w s rule follow adr tag w := ⟨hL, LUpd.refl _ _⟩; have hlen := N0.len
 have N1 := N0.alloc0 (.cells #[.iface (plT t) x, .int .i64 m, .bool o] 206); obtain ⟨tag2, N2, ht2⟩ := N1.push2; obtain ⟨tag3, N3, ht3⟩ := N2.push2; obtain ⟨n, hn⟩ : ∃ y, y = s.knots.length := ⟨_, rfl⟩; obtain ⟨st, hst⟩ : ∃ y, y = w.heap.size := ⟨_, rfl⟩; obtain ⟨S2, hS2⟩ : ∃ y, y = (s.push ⟨[], 0, false⟩).push ⟨[], 0, false⟩ := ⟨_, rfl⟩
 obtain ⟨adr3, hadr3⟩ : ∃ y, y = adr ++ [(w.alloc (.cells #[.iface (plT t) x, .int .i64 m, .bool o] 206)).heap.size] ++ [((w.alloc (.cells #[.iface (plT t) x, .int .i64 m, .bool o] 206)).alloc (.cells #[.slice none 0 0, .int .i64 0, .bool false, .bool false] 143)).heap.size] := ⟨_, rfl⟩; obtain ⟨w3, hw3⟩ : ∃ y, y = ((w.alloc (.cells #[.iface (plT t) x, .int .i64 m, .bool o] 206)).alloc (.cells #[.slice none 0 0, .int .i64 0, .bool false, .bool false] 143)).alloc (.cells #[.slice none 0 0, .int .i64 0, .bool false, .bool false] 143) := ⟨_, rfl⟩; rw [<- hadr3, <- hw3, <- hS2] at N3
 have M0 : zbU tag3 bl bm w3 S2 rule follow adr3 tag3 w3 := ⟨N3.lay, LUpd.refl _ _⟩; have U3 := N3.upd; have hS2l : S2.knots.length = n + 2 := by rw [hS2, hn]; simp [zaz.push]
 have hl3 := M0.len; have sto : w3.heap[st]? = some (.cells #[.iface (plT t) x, .int .i64 m, .bool o] 206 (0, 0)) := by
  rw [hw3, hst, zap, if_neg (by simp; omega), zap, if_neg (by simp), zap, if_pos rfl]
 have stt : tag3 st = 0 := by
  rw [ht3 st (by simp [hst]; omega), ht2 st (by simp [hst]), hst]; simp [zaR]
 have stl : st < w3.heap.size := zaa sto; have kA : st + 1 = adr3.getD n 0 := by
  rw [hadr3, zas (by simp [hlen, hn]), hn, <- hlen, zaQ, hst]; simp
 have kB : st + 1 + 1 = adr3.getD (n + 1) 0 := by
  rw [hadr3, show n + 1 = (adr ++ [(w.alloc (.cells #[.iface (plT t) x, .int .i64 m, .bool o] 206)).heap.size]).length by simp [hlen, hn], zaQ, hst]; simp
 have aI : ai = adr3.getD i 0 := by
  rw [hadr3, zas (by simp [hlen]; omega), zas (by rw [hlen]; exact hi)]; exact hai
 rw [<- hn, <- hS2] at hlay; obtain ⟨S3, hS3⟩ : ∃ y, y = S2.link i [n] := ⟨_, rfl⟩; have L3 := zaE.link S2 i [n]; rw [<- hS3] at hlay L3; cases hx : layT t n S3 with
 | none => rw [hx] at hlay; cases hlay
 | some pq =>
 obtain ⟨p1, S4⟩ := pq; rw [hx] at hlay; simp only [Option.some.injEq, Prod.mk.injEq] at hlay; obtain ⟨rfl, hs'⟩ := hlay; have L4 := zbr _ _ _ _ _ hx; obtain ⟨S5, hS5⟩ : ∃ y, y = S4.link p1 [n + 1] := ⟨_, rfl⟩; have L5 := zaE.link S4 p1 [n + 1]; rw [<- hS5] at hs' L5; obtain ⟨S6, hS6⟩ : ∃ y, y = (if o = true then S5 else S5.link p1 [n]) := ⟨_, rfl⟩; have L6 : zaE S5 S6 := by rw [hS6]; split; exact zaE.refl _; exact zaE.link _ _ _
 rw [<- hS6] at hs'; have L7 : zaE S6 s' := by rw [<- hs']; split; exact zaE.link _ _ _; exact zaE.refl _
 have HT3 := hid (zar.upd U3 hu); have HM0 := hid M0; have HU3 := hid U3; have HST := hid (And.intro sto (And.intro stt stl)); have HAI3 := hid aI; have hi2 : i < S2.knots.length := by rw [hS2l]; omega
 have HL := hid (And.intro hi2 (And.intro (show n < S2.knots.length by omega) (show n + 1 < S2.knots.length by omega))); have HLT := hid (And.intro L3 (And.intro L4 (And.intro L5 (And.intro L6 L7)))); have HS := hid (And.intro hS3 (And.intro hS5 (And.intro hS6 hs'))); have HX := hid hx; have HB := hid hbig; have HN := hid (And.intro hrl (And.intro hbl hn0)); have HCL := hid (show S2.cls = s.cls /\ S2.behind = s.behind by rw [hS2]; exact ⟨rfl, rfl⟩); have HEXT := hid (show ∃ ext, adr3 = adr ++ ext from ⟨_, by rw [hadr3, List.append_assoc]⟩)
 obtain ⟨a1, ha1'⟩ : ∃ y, y = st + 1 := ⟨_, rfl⟩; obtain ⟨b1, hb1'⟩ : ∃ y, y = st + 1 + 1 := ⟨_, rfl⟩; have HKA := hid (show a1 = adr3.getD n 0 by rw [ha1', kA]); have HKB := hid (show b1 = adr3.getD (n + 1) 0 by rw [hb1', kB]); have HW3 := hid (And.intro hw3 (And.intro hst (And.intro ha1' hb1'))); clear hw3 hst ha1' hb1' kA kB M0 U3 sto stt stl aI hai hi2 L3 L4 L5 L6 L7 hS3 hS5 hS6 hs' hx hbig hrl hbl hn0 N0 N1 N2 N3 ht2 ht3 hl3 hu hS2 hS2l hadr3 hlen hn hlater hL; go_enter Tryz.func57, Tryz.ntmps57; go_upto_region 34 with (fail)
 rw [<- HW3.out.1, <- HW3.out.2.1, <- HW3.out.2.2.1, <- show b1 = a1 + 1 by rw [HW3.out.2.2.2, HW3.out.2.2.1]]; clear ha1 ha2 ha3 ha4; obtain ⟨vi1, hrd1, hlk1⟩ := HM0.out.ready i HL.out.1; rw [<- HAI3.out] at hrd1 hlk1; have c1 := hrd1.cell; have f1 := hrd1.free; have l1 := hrd1.lt; have HRW1 := hid hrd1.row; have HKP1 := hid hrd1.kept; have HLK1 := hid hlk1
 have hbn1 : (toOf S2.knots i).length + 1 <= 1000000000 := (by have h0 := HB.out i; have h := HLT.out; unfold zaE at h; have h1 := h.1.2.2.2 i; have h2 := h.2.1.2.2.2 i; have h3 := h.2.2.1.2.2.2 i; have h4 := h.2.2.2.1.2.2.2 i; have h5 := h.2.2.2.2.2.2.2 i; omega); clear hrd1 hlk1
 go_upto_region 35 with (at_builtin; refine zan _ rfl _ _ rfl zcl _ _ _ rfl (by exact (HRW1.out.alloc _)) ⟨_, 0, none⟩ 1 1 [zaj a1] rfl rfl (zaD _ #[zaj a1] _ _ (by simp)) (by simp [Value.oneCell']) (by decide) hbn1 (by decide) ?_; intro va1 wa1 hra1 hga1 hba1; obtain ⟨ga1, ca1, rfl⟩ := zbl hra1; obtain ⟨ka1, kb1, kc1⟩ := HKP1.out _ _ hga1)
 obtain ⟨tg1, hN1⟩ := HLK1.out [n] (fun j hj => by rw [List.mem_singleton] at hj; subst hj; exact HL.out.2.1) (.cells #[zaj a1] 141) wa1 _ (by rw [show ([n].map fun j => zaj (adr3.getD j 0)) = [zaj a1] from congrArg (fun z => [zaj z]) HKA.out.symm]; exact hra1) hga1 hba1; have HN1 := hid hN1; clear hN1 hra1 hga1 hba1 ka1 kb1 kc1 c1 f1 l1 hbn1; generalize wa1.setCell ⟨ai, 0, none⟩ (.slice (some ⟨ga1, 0, none⟩) ((toOf S2.knots i).length + 1) ca1) = wn1 at HN1 ⊢; have hN1 := HN1.out; rw [<- HS.out.1] at hN1; have hst1 := (hN1.upd.keep st HST.out.2.2 (.inl HST.out.2.1)).trans HST.out.1
 have d0 : wn1.cell? ⟨st, 0, none⟩ = some (.iface (plT t) x) := by have h0 := zab _ _ 0 _ _ _ hst1; simpa using h0
 have e0 : st < wn1.heap.size := zaa hst1; have hcall := ih n p1 S3 S4 wn1 tg1 bl bm adr3 rule follow _ hN1.lay (by have h := HLT.out.1; unfold zaE at h; have := HN.out; have := HCL.out; rw [HS.out.1]; simp only [zaz.link]; rw [this.1]; omega)
  (by have := HN.out; have := HCL.out; rw [HS.out.1]; simp only [zaz.link]; rw [this.1, this.2]; omega) (by have := HN.out; have := HCL.out; rw [HS.out.1]; simp only [zaz.link]; rw [this.1]; omega)
  (zar.upd hN1.upd HT3.out) (by have h := HLT.out.1; have := HL.out; unfold zaE at h; omega) HX.out
  (fun k => by have h0 := HB.out k; have h := HLT.out; unfold zaE at h; have h3 := h.2.2.1.2.2.2 k; have h4 := h.2.2.2.1.2.2.2 k; have h5 := h.2.2.2.2.2.2.2 k; omega)
 rw [<- HKA.out] at hcall; have HCALL := hid hcall; have HN1' := hid hN1; clear hcall hN1 hst1; go_wp2_with (fail); refine HCALL.out.mono ?_; rintro e w5 ⟨tag5, ext5, rfl, hL5, hp5, hU5⟩; have hl0 := HM0.out.len; obtain ⟨adr4, hadr4⟩ : ∃ y, y = adr3 ++ ext5 := ⟨_, rfl⟩; obtain ⟨ap, hap⟩ : ∃ y, y = adr4.getD p1 0 := ⟨_, rfl⟩; rw [<- hadr4] at hL5; rw [<- hadr4, <- hap]; have HP := hid hap; have HKA4 := hid (show a1 = adr4.getD n 0 by rw [hadr4, zas (by rw [hl0]; exact HL.out.2.1)]; exact HKA.out)
 have HKB4 := hid (show b1 = adr4.getD (n + 1) 0 by rw [hadr4, zas (by rw [hl0]; exact HL.out.2.2)]; exact HKB.out); have HEXT4 := hid (show ∃ ext, adr4 = adr ++ ext by obtain ⟨e, he⟩ := HEXT.out; exact ⟨e ++ ext5, by rw [hadr4, he, List.append_assoc]⟩); have HN5 := hid (show zbU tag3 bl bm w3 S4 (rule ++ List.replicate (S4.cls.length - S3.cls.length) (-1)) follow adr4 tag5 w5 from ⟨hL5, HN1'.out.upd.trans hU5⟩); have HP5 := hid hp5; have HL4 := hid (show n + 1 < S4.knots.length by have h := HLT.out; have := HL.out; unfold zaE at h; omega)
 clear hap hl0 hL5 hU5 hp5 hadr4 d0 e0; obtain ⟨vi2, hrd2, hlk2⟩ := HN5.out.ready p1 HP5.out; rw [<- HP.out] at hrd2 hlk2; have c2 := hrd2.cell; have f2 := hrd2.free; have l2 := hrd2.lt; have HRW2 := hid hrd2.row; have HKP2 := hid hrd2.kept; have HLK2 := hid hlk2; have hbn2 : (toOf S4.knots p1).length + 1 <= 1000000000 := (by have h0 := HB.out p1; have h := HLT.out; unfold zaE at h; have h3 := h.2.2.1.2.2.2 p1; have h4 := h.2.2.2.1.2.2.2 p1; have h5 := h.2.2.2.2.2.2.2 p1; omega); clear hrd2 hlk2
 go_upto_region 37 with (at_builtin; refine zan _ rfl _ _ rfl zcl _ _ _ rfl (by exact (HRW2.out.alloc _)) ⟨_, 0, none⟩ 1 1 [zaj b1] rfl rfl (zaD _ #[zaj b1] _ _ (by simp)) (by simp [Value.oneCell']) (by decide) hbn2 (by decide) ?_; intro va2 wa2 hra2 hga2 hba2; obtain ⟨ga2, ca2, rfl⟩ := zbl hra2; obtain ⟨ka2, kb2, kc2⟩ := HKP2.out _ _ hga2)
 obtain ⟨tg2, hN2⟩ := HLK2.out [(n + 1)] (fun j hj => by rw [List.mem_singleton] at hj; subst hj; exact HL4.out) (.cells #[zaj b1] 141) wa2 _ (by rw [show ([(n + 1)].map fun j => zaj (adr4.getD j 0)) = [zaj b1] from congrArg (fun z => [zaj z]) HKB4.out.symm]; exact hra2) hga2 hba2; have HN2 := hid hN2; clear hN2 hra2 hga2 hba2 ka2 kb2 kc2 c2 f2 l2 hbn2; generalize wa2.setCell ⟨ap, 0, none⟩ (.slice (some ⟨ga2, 0, none⟩) ((toOf S4.knots p1).length + 1) ca2) = wn2 at HN2 ⊢; have hN6 := HN2.out; rw [<- HS.out.2.1] at hN6; have HN6 := hid hN6; clear hN6; cases o with
 | true =>
  have hst := (HN6.out.upd.keep st HST.out.2.2 (.inl HST.out.2.1)).trans HST.out.1; have d2 : wn2.cell? ⟨st, 2, none⟩ = some (.bool true) := by have h0 := zab _ _ 2 _ _ _ hst; simpa using h0
  have d1 : wn2.cell? ⟨st, 1, none⟩ = some (.int .i64 m) := by have h0 := zab _ _ 1 _ _ _ hst; simpa using h0
  have e0 : st < wn2.heap.size := zaa hst; clear hst; have h6 := HS.out.2.2.1; rw [if_pos rfl] at h6; have HN7 := HN6; rw [<- h6] at HN7; have H6 := hid h6; clear h6; by_cases hm : m = 0
  . have HM := hid hm
    obtain ⟨vi3, hrd3, hlk3⟩ := HN7.out.ready n (by have h := HLT.out; have := HL.out; unfold zaE at h; omega); rw [<- HKA4.out] at hrd3 hlk3; have c3 := hrd3.cell; have f3 := hrd3.free; have l3 := hrd3.lt; have HRW3 := hid hrd3.row; have HKP3 := hid hrd3.kept; have HLK3 := hid hlk3; have hbn3 : (toOf S6.knots n).length + 1 <= 1000000000 := (by have h0 := HB.out n; have h := HLT.out; unfold zaE at h; have h5 := h.2.2.2.2.2.2.2 n; omega); clear hrd3 hlk3
    go_wp2_with (at_builtin; refine zan _ rfl _ _ rfl zcl _ _ _ rfl (by exact (HRW3.out.alloc _)) ⟨_, 0, none⟩ 1 1 [zaj b1] rfl rfl (zaD _ #[zaj b1] _ _ (by simp)) (by simp [Value.oneCell']) (by decide) hbn3 (by decide) ?_; intro va3 wa3 hra3 hga3 hba3; obtain ⟨ga3, ca3, rfl⟩ := zbl hra3; obtain ⟨ka3, kb3, kc3⟩ := HKP3.out _ _ hga3)
    obtain ⟨tg3, hN3⟩ := HLK3.out [(n + 1)] (fun j hj => by rw [List.mem_singleton] at hj; subst hj; exact (by have h := HLT.out; have := HL.out; unfold zaE at h; omega)) (.cells #[zaj b1] 141) wa3 _ (by rw [show ([(n + 1)].map fun j => zaj (adr4.getD j 0)) = [zaj b1] from congrArg (fun z => [zaj z]) HKB4.out.symm]; exact hra3) hga3 hba3; have HN3 := hid hN3; clear hN3 hra3 hga3 hba3 ka3 kb3 kc3 c3 f3 l3 hbn3; generalize wa3.setCell ⟨a1, 0, none⟩ (.slice (some ⟨ga3, 0, none⟩) ((toOf S6.knots n).length + 1) ca3) = wn3 at HN3 ⊢; go_ret; have hs' := HS.out.2.2.2
    rw [if_pos HM.out] at hs'; exact zgq (s' := s') (b := b1) (hs' ▸ HN3.out) HU3.out HEXT4.out (by rw [<- hs']; show S6.cls.length = S4.cls.length; rw [H6.out, HS.out.2.1]; rfl) (by rw [HS.out.1]; show S2.cls.length = _; rw [HCL.out.1]) (by have h := HLT.out; have := HL.out; unfold zaE at h; omega) HKB4.out
  . have HM := hid hm
    go_wp2_with (fail); go_ret; have hs' := HS.out.2.2.2; rw [if_neg HM.out] at hs'; exact zgq (s' := s') (b := b1) (hs' ▸ HN7.out) HU3.out HEXT4.out (by rw [<- hs']; show S6.cls.length = S4.cls.length; rw [H6.out, HS.out.2.1]; rfl) (by rw [HS.out.1]; show S2.cls.length = _; rw [HCL.out.1]) (by have h := HLT.out; have := HL.out; unfold zaE at h; omega) HKB4.out
 | false =>
  have hst := (HN6.out.upd.keep st HST.out.2.2 (.inl HST.out.2.1)).trans HST.out.1; have d2 : wn2.cell? ⟨st, 2, none⟩ = some (.bool false) := by have h0 := zab _ _ 2 _ _ _ hst; simpa using h0
  have d1 : wn2.cell? ⟨st, 1, none⟩ = some (.int .i64 m) := by have h0 := zab _ _ 1 _ _ _ hst; simpa using h0
  have e0 : st < wn2.heap.size := zaa hst; clear hst; obtain ⟨vi4, hrd4, hlk4⟩ := HN6.out.ready p1 (by have := HP5.out; have h := HLT.out; unfold zaE at h; omega); rw [<- HP.out] at hrd4 hlk4; have c4 := hrd4.cell; have f4 := hrd4.free; have l4 := hrd4.lt; have HRW4 := hid hrd4.row; have HKP4 := hid hrd4.kept; have HLK4 := hid hlk4; have hbn4 : (toOf S5.knots p1).length + 1 <= 1000000000 := (by have h0 := HB.out p1; have h := HLT.out; unfold zaE at h; have h4 := h.2.2.2.1.2.2.2 p1; have h5 := h.2.2.2.2.2.2.2 p1; omega); clear hrd4 hlk4
  go_upto_region 39 with (at_builtin; refine zan _ rfl _ _ rfl zcl _ _ _ rfl (by exact (HRW4.out.alloc _)) ⟨_, 0, none⟩ 1 1 [zaj a1] rfl rfl (zaD _ #[zaj a1] _ _ (by simp)) (by simp [Value.oneCell']) (by decide) hbn4 (by decide) ?_; intro va4 wa4 hra4 hga4 hba4; obtain ⟨ga4, ca4, rfl⟩ := zbl hra4; obtain ⟨ka4, kb4, kc4⟩ := HKP4.out _ _ hga4)
  obtain ⟨tg4, hN4⟩ := HLK4.out [n] (fun j hj => by rw [List.mem_singleton] at hj; subst hj; exact (by have h := HLT.out; have := HL.out; unfold zaE at h; omega)) (.cells #[zaj a1] 141) wa4 _ (by rw [show ([n].map fun j => zaj (adr4.getD j 0)) = [zaj a1] from congrArg (fun z => [zaj z]) HKA4.out.symm]; exact hra4) hga4 hba4; have HN4 := hid hN4; clear hN4 hra4 hga4 hba4 ka4 kb4 kc4 c4 f4 l4 hbn4; generalize wa4.setCell ⟨ap, 0, none⟩ (.slice (some ⟨ga4, 0, none⟩) ((toOf S5.knots p1).length + 1) ca4) = wn4 at HN4 ⊢; have hN8 := HN4.out; have h6 := HS.out.2.2.1
  rw [if_neg (by decide)] at h6; rw [<- h6] at hN8; have HN8 := hid hN8; have H6 := hid h6; clear h6 hN8 d2 d1 e0; have hst := (HN8.out.upd.keep st HST.out.2.2 (.inl HST.out.2.1)).trans HST.out.1; have d2 : wn4.cell? ⟨st, 2, none⟩ = some (.bool false) := by have h0 := zab _ _ 2 _ _ _ hst; simpa using h0
  have d1 : wn4.cell? ⟨st, 1, none⟩ = some (.int .i64 m) := by have h0 := zab _ _ 1 _ _ _ hst; simpa using h0
  have e0 : st < wn4.heap.size := zaa hst; clear hst; by_cases hm : m = 0
  . have HM := hid hm
    obtain ⟨vi5, hrd5, hlk5⟩ := HN8.out.ready n (by have h := HLT.out; have := HL.out; unfold zaE at h; omega); rw [<- HKA4.out] at hrd5 hlk5; have c5 := hrd5.cell; have f5 := hrd5.free; have l5 := hrd5.lt; have HRW5 := hid hrd5.row; have HKP5 := hid hrd5.kept; have HLK5 := hid hlk5; have hbn5 : (toOf S6.knots n).length + 1 <= 1000000000 := (by have h0 := HB.out n; have h := HLT.out; unfold zaE at h; have h5 := h.2.2.2.2.2.2.2 n; omega); clear hrd5 hlk5
    go_wp2_with (at_builtin; refine zan _ rfl _ _ rfl zcl _ _ _ rfl (by exact (HRW5.out.alloc _)) ⟨_, 0, none⟩ 1 1 [zaj b1] rfl rfl (zaD _ #[zaj b1] _ _ (by simp)) (by simp [Value.oneCell']) (by decide) hbn5 (by decide) ?_; intro va5 wa5 hra5 hga5 hba5; obtain ⟨ga5, ca5, rfl⟩ := zbl hra5; obtain ⟨ka5, kb5, kc5⟩ := HKP5.out _ _ hga5)
    obtain ⟨tg5, hN5⟩ := HLK5.out [(n + 1)] (fun j hj => by rw [List.mem_singleton] at hj; subst hj; exact (by have h := HLT.out; have := HL.out; unfold zaE at h; omega)) (.cells #[zaj b1] 141) wa5 _ (by rw [show ([(n + 1)].map fun j => zaj (adr4.getD j 0)) = [zaj b1] from congrArg (fun z => [zaj z]) HKB4.out.symm]; exact hra5) hga5 hba5; have HN5 := hid hN5; clear hN5 hra5 hga5 hba5 ka5 kb5 kc5 c5 f5 l5 hbn5; generalize wa5.setCell ⟨a1, 0, none⟩ (.slice (some ⟨ga5, 0, none⟩) ((toOf S6.knots n).length + 1) ca5) = wn5 at HN5 ⊢; go_ret; have hs' := HS.out.2.2.2
    rw [if_pos HM.out] at hs'; exact zgq (s' := s') (b := b1) (hs' ▸ HN5.out) HU3.out HEXT4.out (by rw [<- hs']; show S6.cls.length = S4.cls.length; rw [H6.out, HS.out.2.1]; rfl) (by rw [HS.out.1]; show S2.cls.length = _; rw [HCL.out.1]) (by have h := HLT.out; have := HL.out; unfold zaE at h; omega) HKB4.out
  have HM := hid hm
  go_wp2_with (fail); go_ret; have hs' := HS.out.2.2.2; rw [if_neg HM.out] at hs'; exact zgq (s' := s') (b := b1) (hs' ▸ HN8.out) HU3.out HEXT4.out (by rw [<- hs']; show S6.cls.length = S4.cls.length; rw [H6.out, HS.out.2.1]; rfl) (by rw [HS.out.1]; show S2.cls.length = _; rw [HCL.out.1]) (by have h := HLT.out; have := HL.out; unfold zaE at h; omega) HKB4.out
end
section
open Go.RowKit Go.Lib
theorem zbU.drew {tag : Nat -> Nat} {bl bm : Nat} {w : World} {s : zaz} {rule : List Int} {follow : List Set2} {adr : List Nat} {tagk : Nat -> Nat} {wr : World} (h : zbU tag bl bm w s rule follow adr tagk wr) : zbU tag bl bm w s rule follow adr tagk wr.drew := by
 obtain ⟨vs, vc, vf, vr, vb, cvs, bvs, hK, hM⟩ := h.lay; have hb := (Below.refl wr.heap.size wr).drew; have hk := KUpd.below (tag := tagk) hb; exact ⟨⟨vs, vc, vf, vr, vb, cvs, bvs, hK.below hb, by have := hM.apart (ext := []) hk; rwa [List.append_nil] at this⟩, h.upd.trans (LUpd.of_k hk)⟩
theorem zkP (ta tb : Tree) (iha : LayC ta) (ihb : LayC tb) : LayC (.either ta tb) := by
 intro i p s s' w tag bl bm adr rule follow v hL hrl hbl hn0 hT hi hlay hbig; rw [layT] at hlay; simp only [zar] at hT; obtain ⟨ua, ub, rfl, hua, hub⟩ := hT; obtain ⟨xa, rfl, _⟩ := zcP ta ua _ w hua; obtain ⟨xb, rfl, _⟩ := zcP tb ub _ w hub; obtain ⟨ai, hai⟩ : ∃ x, x = adr.getD i 0 := ⟨_, rfl⟩; rw [<- hai]; have ha1 := fun v => zil v; have ha2 := fun v => zh5 v; have ha3 := fun v => zin v; have N0 : zbU tag bl bm w s rule follow adr tag w := ⟨hL, LUpd.refl _ _⟩; have hlen := N0.len
 have N1 := N0.alloc0 (.cells #[.iface (plT ta) xa, .iface (plT tb) xb] 204); obtain ⟨tag2, N2, ht2⟩ := N1.push2; obtain ⟨tag3, N3, ht3⟩ := N2.push2; obtain ⟨tag4, N4, ht4⟩ := N3.push2; obtain ⟨n, hn⟩ : ∃ y, y = s.knots.length := ⟨_, rfl⟩; obtain ⟨st, hst⟩ : ∃ y, y = w.heap.size := ⟨_, rfl⟩; obtain ⟨S2, hS2⟩ : ∃ y, y = ((s.push ⟨[], 0, false⟩).push ⟨[], 0, false⟩).push ⟨[], 0, false⟩ := ⟨_, rfl⟩
 obtain ⟨adr3, hadr3⟩ : ∃ y, y = adr ++ [(w.alloc (.cells #[.iface (plT ta) xa, .iface (plT tb) xb] 204)).heap.size] ++ [((w.alloc (.cells #[.iface (plT ta) xa, .iface (plT tb) xb] 204)).alloc (.cells #[.slice none 0 0, .int .i64 0, .bool false, .bool false] 143)).heap.size] ++ [(((w.alloc (.cells #[.iface (plT ta) xa, .iface (plT tb) xb] 204)).alloc (.cells #[.slice none 0 0, .int .i64 0, .bool false, .bool false] 143)).alloc (.cells #[.slice none 0 0, .int .i64 0, .bool false, .bool false] 143)).heap.size] := ⟨_, rfl⟩
 obtain ⟨w3, hw3⟩ : ∃ y, y = (((w.alloc (.cells #[.iface (plT ta) xa, .iface (plT tb) xb] 204)).alloc (.cells #[.slice none 0 0, .int .i64 0, .bool false, .bool false] 143)).alloc (.cells #[.slice none 0 0, .int .i64 0, .bool false, .bool false] 143)).alloc (.cells #[.slice none 0 0, .int .i64 0, .bool false, .bool false] 143) := ⟨_, rfl⟩; rw [<- hadr3, <- hw3, <- hS2] at N4; have M0 : zbU tag4 bl bm w3 S2 rule follow adr3 tag4 w3 := ⟨N4.lay, LUpd.refl _ _⟩; have U3 := N4.upd; have hS2l : S2.knots.length = n + 3 := by rw [hS2, hn]; simp [zaz.push]
 have hl3 := M0.len; have sto : w3.heap[st]? = some (.cells #[.iface (plT ta) xa, .iface (plT tb) xb] 204 (0, 0)) := by
  rw [hw3, hst, zap, if_neg (by simp; omega), zap, if_neg (by simp; omega), zap, if_neg (by simp), zap, if_pos rfl]
 have stt : tag4 st = 0 := by
  rw [ht4 st (by simp [hst]; omega), ht3 st (by simp [hst]; omega), ht2 st (by simp [hst]), hst]; simp [zaR]
 have stl : st < w3.heap.size := zaa sto; have kA : st + 1 = adr3.getD n 0 := by
  rw [hadr3, zas (by simp [hlen, hn]), zas (by simp [hlen, hn]), hn, <- hlen, zaQ, hst]; simp
 have kB : st + 1 + 1 = adr3.getD (n + 1) 0 := by
  rw [hadr3, zas (by simp [hlen, hn]), show n + 1 = (adr ++ [(w.alloc (.cells #[.iface (plT ta) xa, .iface (plT tb) xb] 204)).heap.size]).length by simp [hlen, hn], zaQ, hst]; simp
 have kC : st + 1 + 1 + 1 = adr3.getD (n + 2) 0 := by
  rw [hadr3, show n + 2 = (adr ++ [(w.alloc (.cells #[.iface (plT ta) xa, .iface (plT tb) xb] 204)).heap.size] ++ [((w.alloc (.cells #[.iface (plT ta) xa, .iface (plT tb) xb] 204)).alloc (.cells #[.slice none 0 0, .int .i64 0, .bool false, .bool false] 143)).heap.size]).length by simp [hlen, hn], zaQ, hst]; simp
 have aI : ai = adr3.getD i 0 := by
  rw [hadr3, zas (by simp [hlen]; omega), zas (by simp [hlen]; omega), zas (by rw [hlen]; exact hi)]; exact hai
 rw [<- hn, <- hS2] at hlay; obtain ⟨S3, hS3⟩ : ∃ y, y = S2.link i [n, n + 1] := ⟨_, rfl⟩; have L3 := zaE.link S2 i [n, n + 1]; rw [<- hS3] at hlay L3; cases hx : layT ta n S3 with
 | none => rw [hx] at hlay; cases hlay
 | some pq =>
 obtain ⟨p1, S4⟩ := pq; rw [hx] at hlay; simp only at hlay; cases hy : layT tb (n + 1) S4 with
 | none => rw [hy] at hlay; cases hlay
 | some pq =>
 obtain ⟨q1, S5⟩ := pq; rw [hy] at hlay; simp only [Option.some.injEq, Prod.mk.injEq] at hlay; obtain ⟨rfl, hs'⟩ := hlay; have L4 := zbr _ _ _ _ _ hx; have L5 := zbr _ _ _ _ _ hy; obtain ⟨S6, hS6⟩ : ∃ y, y = S5.link p1 [n + 2] := ⟨_, rfl⟩; have L6 := zaE.link S5 p1 [n + 2]; rw [<- hS6] at hs' L6; have L7 : zaE S6 s' := by rw [<- hs']; exact zaE.link _ _ _
 have HTA := hid (zar.upd U3 hua); have HTB := hid (zar.upd U3 hub); have HM0 := hid M0; have HU3 := hid U3; have HST := hid (And.intro sto (And.intro stt stl)); have HAI3 := hid aI; have hi2 : i < S2.knots.length := by rw [hS2l]; omega
 have HL := hid (And.intro hi2 (And.intro (show n < S2.knots.length by omega) (And.intro (show n + 1 < S2.knots.length by omega) (show n + 2 < S2.knots.length by omega)))); have HLT := hid (And.intro L3 (And.intro L4 (And.intro L5 (And.intro L6 L7)))); have HS := hid (And.intro hS3 (And.intro hS6 hs')); have HX := hid hx; have HY := hid hy; have HB := hid hbig; have HN := hid (And.intro hrl (And.intro hbl hn0)); have HCL := hid (show S2.cls = s.cls /\ S2.behind = s.behind by rw [hS2]; exact ⟨rfl, rfl⟩)
 have HEXT := hid (show ∃ ext, adr3 = adr ++ ext from ⟨_, by rw [hadr3, List.append_assoc, List.append_assoc]⟩); obtain ⟨a1, ha1'⟩ : ∃ y, y = st + 1 := ⟨_, rfl⟩; obtain ⟨b1, hb1'⟩ : ∃ y, y = st + 1 + 1 := ⟨_, rfl⟩; obtain ⟨d1, hd1'⟩ : ∃ y, y = st + 1 + 1 + 1 := ⟨_, rfl⟩; have HKA := hid (show a1 = adr3.getD n 0 by rw [ha1', kA]); have HKB := hid (show b1 = adr3.getD (n + 1) 0 by rw [hb1', kB]); have HKD := hid (show d1 = adr3.getD (n + 2) 0 by rw [hd1', kC]); have HW3 := hid (And.intro hw3 (And.intro hst (And.intro ha1' (And.intro hb1' hd1'))))
 clear hw3 hst ha1' hb1' hd1' kA kB kC M0 U3 sto stt stl aI hai hi2 L3 L4 L5 L6 L7 hS3 hS6 hs' hx hy hbig hrl hbl hn0 N0 N1 N2 N3 N4 ht2 ht3 ht4 hl3 hua hub hS2 hS2l hadr3 hlen hn hL; go_enter Tryz.func57, Tryz.ntmps57; go_upto_region 24 with (fail)
 rw [<- HW3.out.1, <- HW3.out.2.1, <- HW3.out.2.2.1, <- show b1 = a1 + 1 by rw [HW3.out.2.2.2.1, HW3.out.2.2.1], <- show d1 = b1 + 1 by rw [HW3.out.2.2.2.2, HW3.out.2.2.2.1]]; clear ha1 ha2 ha3; obtain ⟨vi1, hrd1, hlk1⟩ := HM0.out.ready i HL.out.1; rw [<- HAI3.out] at hrd1 hlk1; have c1 := hrd1.cell; have f1 := hrd1.free; have l1 := hrd1.lt; have HRW1 := hid hrd1.row; have HKP1 := hid hrd1.kept; have HLK1 := hid hlk1
 have hbn1 : (toOf S2.knots i).length + 2 <= 1000000000 := (by have h0 := HB.out i; have h := HLT.out; unfold zaE at h; have h1 := h.1.2.2.2 i; have h2 := h.2.1.2.2.2 i; have h3 := h.2.2.1.2.2.2 i; have h4 := h.2.2.2.1.2.2.2 i; have h5 := h.2.2.2.2.2.2.2 i; omega); clear hrd1 hlk1
 go_upto_region 25 with (at_builtin; refine zan _ rfl _ _ rfl zcl _ _ _ rfl (by exact (HRW1.out.alloc _)) ⟨_, 0, none⟩ 2 2 [zaj a1, zaj b1] rfl rfl (zaD _ #[zaj a1, zaj b1] _ _ (by simp)) (by simp [Value.oneCell']) (by decide) hbn1 (by decide) ?_; intro va1 wa1 hra1 hga1 hba1; obtain ⟨ga1, ca1, rfl⟩ := zbl hra1; obtain ⟨ka1, kb1, kc1⟩ := HKP1.out _ _ hga1)
 obtain ⟨tg1, hN1⟩ := HLK1.out [n, n + 1] (fun j hj => by simp only [List.mem_cons, List.not_mem_nil, or_false] at hj; have := HL.out; omega) (.cells #[zaj a1, zaj b1] 141) wa1 _ (by rw [show ([n, n + 1].map fun j => zaj (adr3.getD j 0)) = [zaj a1, zaj b1] from by rw [HKA.out, HKB.out]; rfl]; exact hra1) hga1 hba1; have HN1 := hid hN1; clear hN1 hra1 hga1 hba1 ka1 kb1 kc1 c1 f1 l1 hbn1; generalize wa1.setCell ⟨ai, 0, none⟩ (.slice (some ⟨ga1, 0, none⟩) ((toOf S2.knots i).length + 1 + 1) ca1) = wn1 at HN1 ⊢; have hN1 := HN1.out.drew; rw [<- HS.out.1] at hN1
 have hst1 := (hN1.upd.keep st HST.out.2.2 (.inl HST.out.2.1)).trans HST.out.1; have d0 : wn1.cell? ⟨st, 0, none⟩ = some (.iface (plT ta) xa) := by have h0 := zab _ _ 0 _ _ _ hst1; simpa using h0
 have d1' : wn1.cell? ⟨st, 1, none⟩ = some (.iface (plT tb) xb) := by have h0 := zab _ _ 1 _ _ _ hst1; simpa using h0
 have e0 : st < wn1.heap.size := zaa hst1; have hcall := iha n p1 S3 S4 wn1.drew tg1 bl bm adr3 rule follow _ hN1.lay (by have h := HLT.out.1; unfold zaE at h; have := HN.out; have := HCL.out; rw [HS.out.1]; simp only [zaz.link]; rw [this.1]; omega)
  (by have := HN.out; have := HCL.out; rw [HS.out.1]; simp only [zaz.link]; rw [this.1, this.2]; omega) (by have := HN.out; have := HCL.out; rw [HS.out.1]; simp only [zaz.link]; rw [this.1]; omega)
  (zar.upd hN1.upd HTA.out) (by have h := HLT.out.1; have := HL.out; unfold zaE at h; omega) HX.out
  (fun k => by have h0 := HB.out k; have h := HLT.out; unfold zaE at h; have h3 := h.2.2.1.2.2.2 k; have h4 := h.2.2.2.1.2.2.2 k; have h5 := h.2.2.2.2.2.2.2 k; omega)
 have hl0 := HM0.out.len; rw [<- HKA.out] at hcall; have HE3 := hid (show S3.cls.length = s.cls.length /\ S3.behind.length = s.behind.length by rw [HS.out.1]; exact ⟨congrArg List.length HCL.out.1, congrArg List.length HCL.out.2⟩); have hcall2 : ∀ (w5 : World) (tag5 : Nat -> Nat) (ext5 : List Nat), zcC w5 tag5 bl bm (adr3 ++ ext5) S4 (rule ++ List.replicate (S4.cls.length - S3.cls.length) (-1)) follow -> LUpd tg1 tag5 wn1.drew w5 ->
  Calls Tryz.prog 57 #[.pointer (some ⟨bm, 0, none⟩), .iface (plT tb) xb, zaj b1] w5 (LayO tag5 bl bm (adr3 ++ ext5) S4.cls.length (rule ++ List.replicate (S4.cls.length - S3.cls.length) (-1)) follow q1 S5 w5) := by
  intro w5 tag5 ext5 hL5 hU5; have h := ihb (n + 1) q1 S4 S5 w5 tag5 bl bm (adr3 ++ ext5) (rule ++ List.replicate (S4.cls.length - S3.cls.length) (-1)) follow _ hL5
   (by have h := HLT.out.2.1; unfold zaE at h; have := HN.out; have := HE3.out; simp only [List.length_append, List.length_replicate]; omega)
   (by have h := HLT.out.2.1; unfold zaE at h; have := HN.out; have := HE3.out; omega) (by have h := HLT.out.2.1; unfold zaE at h; have := HN.out; have := HE3.out; omega)
   (zar.upd (hN1.upd.trans hU5) HTB.out) (by have h := HLT.out; have := HL.out; unfold zaE at h; omega) HY.out
   (fun k => by have h0 := HB.out k; have h := HLT.out; unfold zaE at h; have h4 := h.2.2.2.1.2.2.2 k; have h5 := h.2.2.2.2.2.2.2 k; omega)
  rw [zas (by rw [hl0]; exact HL.out.2.2.1), <- HKB.out] at h; exact h
 have hstk : ∀ (w5 : World) (tag5 : Nat -> Nat), LUpd tg1 tag5 wn1.drew w5 -> w5.cell? ⟨st, 0, none⟩ = some (.iface (plT ta) xa) /\ w5.cell? ⟨st, 1, none⟩ = some (.iface (plT tb) xb) /\ st < w5.heap.size := by
  intro w5 tag5 hU5; have h := ((hN1.upd.trans hU5).keep st HST.out.2.2 (.inl HST.out.2.1)).trans HST.out.1; have h0 := zab _ _ 0 _ _ _ h; have h1 := zab _ _ 1 _ _ _ h; exact ⟨by simpa using h0, by simpa using h1, zaa h⟩
 have HCALL := hid hcall; have HCALL2 := hid hcall2; have HSTK := hid hstk; have HN3 := hid hN1; clear hN1 hst1 hcall hcall2 hstk hl0; go_region_held3 (fun w' => w'.cell? ⟨st, 0, none⟩ = some (.iface (plT ta) xa) /\ w'.cell? ⟨st, 1, none⟩ = some (.iface (plT tb) xb)) (go_keep)
  (first | (go_at_call 57; refine (HCALL2.out _ _ _ HL5.out HU5.out).mono ?_; rintro e w6 ⟨tag6, ext6, rfl, hL6, hp6, hU6⟩; obtain ⟨adr5, hadr5⟩ : ∃ y, y = adr3 ++ ext5 ++ ext6 := ⟨_, rfl⟩; obtain ⟨aq, haq⟩ : ∃ y, y = adr5.getD q1 0 := ⟨_, rfl⟩; rw [<- hadr5] at hL6; rw [<- hadr5, <- haq]; have HAQ := hid haq; have HADR5 := hid hadr5; have HL6 := hid hL6; have HU6 := hid hU6; have HP6 := hid hp6; clear hL6 hU6 hp6 haq hadr5; obtain ⟨y0, y1, y2⟩ := HSTK.out _ _ (HU5.out.trans HU6.out))
         | (go_at_call 57; refine HCALL.out.mono ?_; rintro e w5 ⟨tag5, ext5, rfl, hL5, hp5, hU5⟩; obtain ⟨ap, hap⟩ : ∃ y, y = (adr3 ++ ext5).getD p1 0 := ⟨_, rfl⟩; rw [<- hap]; have HAP := hid hap; have HL5 := hid hL5; have HU5 := hid hU5; have HP5 := hid hp5; clear hL5 hU5 hp5 hap; obtain ⟨z0, z1, z2⟩ := HSTK.out _ _ HU5.out))
 have hl0 := HM0.out.len; have hN5 : zbU tag4 bl bm w3 S4 (rule ++ List.replicate (S4.cls.length - S3.cls.length) (-1)) follow (adr3 ++ ext5) tag5 w5 := ⟨HL5.out, HN3.out.upd.trans HU5.out⟩; have hl5 := hN5.len; have hN6 : zbU tag4 bl bm w3 S5 (rule ++ List.replicate (S5.cls.length - S3.cls.length) (-1)) follow adr5 tag6 w6 := ⟨by
  have h := HL6.out; rw [zkb rule _ _ _ HLT.out.2.1.2.1 HLT.out.2.2.1.2.1] at h; exact h, hN5.upd.trans HU6.out⟩
 have hN7 := hN6.alloc0 (.cells #[zaj ap, zaj aq] 141); have HU7 := hid hN7.upd; have hblk : (w6.alloc (.cells #[zaj ap, zaj aq] 141)).heap[w6.heap.size]? = some (.cells #[zaj ap, zaj aq] 141 (0, 0)) := by rw [zap, if_pos rfl]
 have htg : zaR tag6 w6.heap.size 0 w6.heap.size = 0 := by simp [zaR]
 have HN7 := hid (show zbU (zaR tag6 w6.heap.size 0) bl bm (w6.alloc (.cells #[zaj ap, zaj aq] 141)) S5 (rule ++ List.replicate (S5.cls.length - S3.cls.length) (-1)) follow adr5 (zaR tag6 w6.heap.size 0) (w6.alloc (.cells #[zaj ap, zaj aq] 141)) from ⟨hN7.lay, LUpd.refl _ _⟩); have HAP5 := hid (show ap = adr5.getD p1 0 by rw [HADR5.out, zas (by rw [hl5]; exact HP5.out)]; exact HAP.out); have HKD5 := hid (show d1 = adr5.getD (n + 2) 0 by rw [HADR5.out, List.append_assoc, zas (by rw [hl0]; exact HL.out.2.2.2)]; exact HKD.out)
 have HEXT5 := hid (show ∃ ext, adr5 = adr ++ ext by obtain ⟨e, he⟩ := HEXT.out; exact ⟨e ++ ext5 ++ ext6, by rw [HADR5.out, he]; simp only [List.append_assoc]⟩); clear hl0 hN5 hl5 hN6 hN7 HL5 HU5 HL6 HU6 y0 y1 y2 z0 z1 z2 d0 d1' e0; obtain ⟨g6, hg6⟩ : ∃ y, y = w6.heap.size := ⟨_, rfl⟩; rw [<- hg6] at hblk htg HN7 HU7 ⊢; clear hg6; generalize w6.alloc (.cells #[zaj ap, zaj aq] 141) = w7 at *; generalize zaR tag6 g6 0 = tag7 at *; have b0 : w7.cell? ⟨g6, 0, none⟩ = some (zaj ap) := by have h0 := zab _ _ 0 _ _ _ hblk; simpa using h0
 have b1' : w7.cell? ⟨g6, 1, none⟩ = some (zaj aq) := by have h0 := zab _ _ 1 _ _ _ hblk; simpa using h0
 have lg6 : g6 < w7.heap.size := zaa hblk; have HBLK := hid (And.intro hblk htg); clear hblk htg; go_wp2_with (fail); refine wp_loop_rounds 3 ?_; rw [rounds_succ]; go_upto_region 28 with (fail)
 obtain ⟨vi2, hrd2, hlk2⟩ := HN7.out.ready p1 (by have := HP5.out; have h := HLT.out; unfold zaE at h; omega); rw [<- HAP5.out] at hrd2 hlk2; have c2 := hrd2.cell; have f2 := hrd2.free; have l2 := hrd2.lt; have HRW2 := hid hrd2.row; have HKP2 := hid hrd2.kept; have HLK2 := hid hlk2; have hbn2 : (toOf S5.knots p1).length + 1 <= 1000000000 := (by have h0 := HB.out p1; have h := HLT.out; unfold zaE at h; have h4 := h.2.2.2.1.2.2.2 p1; have h5 := h.2.2.2.2.2.2.2 p1; omega); clear hrd2 hlk2
 go_wp2_with (at_builtin; refine zan _ rfl _ _ rfl zcl _ _ _ rfl (by exact (HRW2.out.alloc _)) ⟨_, 0, none⟩ 1 1 [zaj d1] rfl rfl (zaD _ #[zaj d1] _ _ (by simp)) (by simp [Value.oneCell']) (by decide) hbn2 (by decide) ?_; intro va2 wa2 hra2 hga2 hba2; obtain ⟨ga2, ca2, rfl⟩ := zbl hra2; obtain ⟨ka2, kb2, kc2⟩ := HKP2.out _ _ hga2)
 obtain ⟨tg2, hN2⟩ := HLK2.out [(n + 2)] (fun j hj => by rw [List.mem_singleton] at hj; subst hj; exact (by have h := HLT.out; have := HL.out; unfold zaE at h; omega)) (.cells #[zaj d1] 141) wa2 _ (by rw [show ([(n + 2)].map fun j => zaj (adr5.getD j 0)) = [zaj d1] from congrArg (fun z => [zaj z]) HKD5.out.symm]; exact hra2) hga2 hba2; have HN2 := hid hN2; clear hN2 hra2 hga2 hba2 ka2 kb2 kc2 c2 f2 l2 hbn2; generalize wa2.setCell ⟨ap, 0, none⟩ (.slice (some ⟨ga2, 0, none⟩) ((toOf S5.knots p1).length + 1) ca2) = wn2 at HN2 ⊢; have hN8 := HN2.out; rw [<- HS.out.2.1] at hN8
 have hblk := (hN8.upd.keep g6 lg6 (.inl HBLK.out.2)).trans HBLK.out.1; have b2 : wn2.cell? ⟨g6, 0, none⟩ = some (zaj ap) := by have h0 := zab _ _ 0 _ _ _ hblk; simpa using h0
 have b3 : wn2.cell? ⟨g6, 1, none⟩ = some (zaj aq) := by have h0 := zab _ _ 1 _ _ _ hblk; simpa using h0
 have lg7 : g6 < wn2.heap.size := zaa hblk; have HN8 := hid hN8; clear hN8 hblk b0 b1'; rw [rounds_succ]; go_upto_region 28 with (fail)
 obtain ⟨vi3, hrd3, hlk3⟩ := HN8.out.ready q1 (by have := HP6.out; have h := HLT.out; unfold zaE at h; omega); rw [<- HAQ.out] at hrd3 hlk3; have c3 := hrd3.cell; have f3 := hrd3.free; have l3 := hrd3.lt; have HRW3 := hid hrd3.row; have HKP3 := hid hrd3.kept; have HLK3 := hid hlk3; have hbn3 : (toOf S6.knots q1).length + 1 <= 1000000000 := (by have h0 := HB.out q1; have h := HLT.out; unfold zaE at h; have h5 := h.2.2.2.2.2.2.2 q1; omega); clear hrd3 hlk3
 go_wp2_with (at_builtin; refine zan _ rfl _ _ rfl zcl _ _ _ rfl (by exact (HRW3.out.alloc _)) ⟨_, 0, none⟩ 1 1 [zaj d1] rfl rfl (zaD _ #[zaj d1] _ _ (by simp)) (by simp [Value.oneCell']) (by decide) hbn3 (by decide) ?_; intro va3 wa3 hra3 hga3 hba3; obtain ⟨ga3, ca3, rfl⟩ := zbl hra3; obtain ⟨ka3, kb3, kc3⟩ := HKP3.out _ _ hga3)
 obtain ⟨tg3, hN3⟩ := HLK3.out [(n + 2)] (fun j hj => by rw [List.mem_singleton] at hj; subst hj; exact (by have h := HLT.out; have := HL.out; unfold zaE at h; omega)) (.cells #[zaj d1] 141) wa3 _ (by rw [show ([(n + 2)].map fun j => zaj (adr5.getD j 0)) = [zaj d1] from congrArg (fun z => [zaj z]) HKD5.out.symm]; exact hra3) hga3 hba3; have HN3 := hid hN3; clear hN3 hra3 hga3 hba3 ka3 kb3 kc3 c3 f3 l3 hbn3; generalize wa3.setCell ⟨aq, 0, none⟩ (.slice (some ⟨ga3, 0, none⟩) ((toOf S6.knots q1).length + 1) ca3) = wn3 at HN3 ⊢; rw [rounds_succ]; go_wp2_with (fail); go_ret
 have hN9 := HN3.out; rw [HS.out.2.2] at hN9; exact zgq (s' := s') (b := d1) hN9 (HU3.out.trans HU7.out) HEXT5.out (by rw [<- HS.out.2.2, HS.out.2.1]; rfl) HE3.out.1 (by have h := HLT.out; have := HL.out; unfold zaE at h; omega) HKD5.out
theorem zgc : ∀ t : Tree, LayC t
 | .cls c => lay_cls c
 | .row l => lay_row l (fun t _ => zgc t)
 | .either a b => zkP a b (zgc a) (zgc b)
 | .rep t m o => lay_rep t m o (zgc t)
end
end Go.Proofs.YtghpmhllpaheiaaGreatDoor
