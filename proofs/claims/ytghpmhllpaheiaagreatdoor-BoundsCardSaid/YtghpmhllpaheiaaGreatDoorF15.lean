/- Part of a proof. No condition. -/
import Derived.Deep.RegionHeld3
import Derived.Test.YtghpmhllpaheiaaGreatDoorF08
import Derived.Test.YtghpmhllpaheiaaGreatDoorF14
set_option linter.unusedVariables false
set_option linter.unusedSimpArgs false
set_option maxRecDepth 100000
set_option maxHeartbeats 40000000
namespace Go.Proofs.YtghpmhllpaheiaaGreatDoor
open Go.RowKit Go.Lib
variable {w w' wr:World} {tag Hd qc:Nat->Nat} {Hc:List Nat} {vs:List Value} {G:List bY} {bl bm:Nat} {rU:List Int} {fO:List aW} {s:bA}
theorem jR {P:Program} {ops:Array Oper} {o:Oper} {a:Act} {K:Act->World->Prop} {Q:Exit->Act->World->Prop} {E:Prop} (KY:o.guard=none) (s x:Operand) {t e:TypeId} {size bytes:Nat}
 (ho:o.op=.call {callee:=.builtin .append,args:=#[s,x],argTypes:=#[t,t]}) (ET:eY P t e size bytes)
 (v:Value) (n:Nat) (xs:List Value) (hs:a.eval s=v) (hown:w.ownsRow 0 e size v n xs)
 (ad:Addr) (m c:Nat) (qh:List Value) (hx:a.eval x=.slice (some ad) m c) (hl:qh.length=m*size) (hnews:∀ j u,qh[j]?=some u->w.cell? (ad.add j)=some u) (h1:∀ u∈qh,u.oneCell'=true)
 (hm:0<m) (hb:n+m<=1000000000) (hbytes:bytes<=1000)
 (h:∀ v' w',w'.ownsRow 0 e size v' (n+m) (xs++qh)->w.grownBy w' v.ownBlock->(v'.ownBlock=v.ownBlock\/v'.ownBlock=some w.heap.size)->K (a.put o.dst v') w'):
 if Region.wanted o (yielded ops a.tmps)=true then Oper.wp P o a w K Q else E:=by
 have hw:Region.wanted o (yielded ops a.tmps)=true:=by simp[Region.wanted,KY]
 rw[zP hw];obtain⟨v',w',hr,h2,h3,h4⟩:=qF (P:=P) w ET o.type v n xs hown ad m c qh hl hnews h1 hm hb hbytes;unfold Oper.wp execOp;simp only[ho,resolve,invoke,builtin,Sem.run_bind,Sem.run_pure,Result.andThen_ok,List.map_toArray,List.map_cons,List.map_nil,hs,hx,hr];exact h v' w' h2 h3 h4
theorem bV {e:TypeId} {size:Nat} {v:Value} {n:Nat} {xs:List Value} (h:w.ownsRow 0 e size v (n+1) xs):∃ g cap,v=.slice (some ⟨g,0,none⟩) (n+1) cap:=by
 rcases bD h with⟨_,h0⟩|⟨g,cap,e,_⟩
 . omega
 exact⟨g,cap,e⟩
def gZ (w:World) (tag:Nat->Nat) (bl bm:Nat) (Hc:List Nat) (s:bA) (rU:List Int) (fO:List aW):Prop:=
 ∃ vs vc vf vr vb qw Qk,pH w tag Hc vs s.kN (λ_=>false)/\pZ w tag bl bm s.cL rU fO Hc s.bE vc vf vr vb qw Qk
structure dL (tag Hd:Nat->Nat) (w w':World):Prop where
 os:w'.os=w.os
 tape:w'.tape=w.tape
 output:w'.output=w.output
 size:w.heap.size<=w'.heap.size
 tags:∀ b,b<w.heap.size->Hd b=tag b
 keep:∀ b,b<w.heap.size->tag b=0\/tag b=7->w'.heap[b]?=w.heap[b]?
theorem dL.refl (tag:Nat->Nat) (w:World):dL tag tag w w:=⟨rfl,rfl,rfl,zR _,λ_ _=>rfl,λ_ _ _=>rfl⟩
theorem dL.trans {t1 t2 t3:Nat->Nat} {a b c:World} (h:dL t1 t2 a b) (k:dL t2 t3 b c):dL t1 t3 a c:=
 ⟨k.os.trans h.os,k.tape.trans h.tape,k.output.trans h.output,zT h.size k.size,λx hx=>(k.tags x (zLd hx h.size)).trans (h.tags x hx),
  λx hx ht=>(k.keep x (zLd hx h.size) (by rw[h.tags x hx];exact ht)).trans (h.keep x hx ht)⟩
theorem dL.of_k (h:oF tag Hd w w'):dL tag Hd w w':=⟨h.os,h.tape,h.output,h.size,h.tags,λb hb ht=>h.keep b hb (by omega)⟩
theorem dL.of_a {c b:Nat} (h:jD tag Hd c b w w') (hc:c≠0/\c≠7) (hb:tag b≠0/\tag b≠7):dL tag Hd w w':=
 ⟨h.os,h.tape,h.output,h.size,h.tags,λx hx ht=>h.keep x hx (by omega) (λe=>by rw[e] at ht;omega)⟩
theorem aX.upd (hu:dL tag Hd w w') {t:aJ} {v:Value} (h:aX (λg=>tag g=7/\g<w.heap.size) w t v):aX (λg=>Hd g=7/\g<w'.heap.size) w' t v:=
 h.ext (λg hg=>⟨(hu.tags g hg.2).trans hg.1,zLd hg.2 hu.size⟩) (λg hg Hf=>hu.keep g Hf (.inr hg.1))
theorem jD.kat {c b:Nat} {seen:Nat->Bool} (hu:jD tag Hd c b w w') (h:pH w tag Hc vs G seen) (hc:c<10) (hb:tag b<10):pH w' Hd Hc vs G seen:=
 h.apart hu.tags λx hx ht=>hu.keep x hx (by omega) (λe=>by rw[e] at ht;omega)
def LayO (tag:Nat->Nat) (bl bm:Nat) (Hc:List Nat) (n0:Nat) (rU:List Int) (fO:List aW) (p:Nat) (s':bA) (w:World) (e:Ending) (w':World):Prop:=
 ∃ Hd ext,e=.returned (aK ((Hc++ext).getD p 0))/\gZ w' Hd bl bm (Hc++ext) s' (rU++List.replicate (s'.cL.length-n0) (-1)) fO/\p<s'.kN.length/\dL tag Hd w w'
def LayC (t:aJ):Prop:=∀ (i p:Nat) (s s':bA) (w:World) (tag:Nat->Nat) (bl bm:Nat) (Hc:List Nat) (rU:List Int) (fO:List aW) (v:Value),
 gZ w tag bl bm Hc s rU fO->rU.length=s.cL.length->s.bE.length=s.cL.length->0<s.cL.length->aX (λg=>tag g=7/\g<w.heap.size) w t v->i<s.kN.length->eD t i s=some (p,s')->(∀ k,(bC s'.kN k).length<=1000000)->
 Calls Tryz.prog 57 #[.pointer (some ⟨bm,0,none⟩),v,aK (Hc.getD i 0)] w (LayO tag bl bm Hc s.cL.length rU fO p s' w)
theorem cls_end {wm w6:World} {cL:List (List (Int×Int))} {bE:List Nat} {vc vf vr vb:Value} {qw Qk:List Value} 
 (hK:pH wm tag Hc vs G (λ_=>false)) (hM:pZ wm tag bl bm cL rU fO Hc bE vc vf vr vb qw Qk) (i:Nat) (hi:i<G.length) (np:Nat) (v6:Value) (ob:Obj)
 (Hb:w6.ownsRow 0 141 1 v6 ((bC G i).length+1) ((bC G i).map (λj=>aK (Hc.getD j 0))++[aK wm.heap.size]))
 (hg:((wm.alloc (.cells #[.slice none 0 0,.int .i64 np,.bool false,.bool false] 143)).alloc ob).grownBy w6 (vs.getD i undef).ownBlock)
 (Hz:v6.ownBlock=(vs.getD i undef).ownBlock\/v6.ownBlock=some ((wm.alloc (.cells #[.slice none 0 0,.int .i64 np,.bool false,.bool false] 143)).alloc ob).heap.size):
 ∃ Hd vs',pH (w6.setCell ⟨Hc.getD i 0,0,none⟩ v6) Hd (Hc++[wm.heap.size]) vs' ((G++[(⟨[],np,false⟩:bY)]).modify i (nT [G.length])) (λ_=>false)/\
  pZ (w6.setCell ⟨Hc.getD i 0,0,none⟩ v6) Hd bl bm cL rU fO (Hc++[wm.heap.size]) bE vc vf vr vb qw Qk/\oF tag Hd wm (w6.setCell ⟨Hc.getD i 0,0,none⟩ v6):=by
 have W2:=hK.push np rfl;have Vy:=oF.push tag wm (.cells #[.slice none 0 0,.int .i64 np,.bool false,.bool false] 143) (10+2*G.length);have ea:(Hc++[wm.heap.size]).getD i 0=Hc.getD i 0:=bF (by rw[hK.la];exact hi);have ev:(vs++[Value.slice none 0 0]).getD i undef=vs.getD i undef:=bF (by rw[hK.lv];exact hi);have et:bC (G++[(⟨[],np,false⟩:bY)]) i=bC G i:=oY hi;have em:(bC G i).map (λj=>aK ((Hc++[wm.heap.size]).getD j 0))=(bC G i).map λj=>aK (Hc.getD j 0):=
  List.map_congr_left λj hj=>by rw[bF (by rw[hK.la];exact hK.wf i j hi hj)]
 have en:([G.length].map λj=>aK ((Hc++[wm.heap.size]).getD j 0))=[aK wm.heap.size]:=by
  rw[<-hK.la,List.map_cons,List.map_nil,cG]
 obtain⟨Hd,h1,h2⟩:=W2.link i (by simp;omega) [G.length] (by simp) ob v6 (by rw[et,em,en];exact Hb) (by rw[ev];exact hg) (by rw[ev];exact Hz);rw[ea] at h1 h2;exact⟨Hd,_,h1,hM.apart (Vy.trans h2),Vy.trans h2⟩
theorem cls_fin {wm w6:World} {YH:Nat->Nat} {n:Nat} {vc vf vr vb:Value} {qw Qk:List Value} {c:List (Int×Int)}
 (hU:dL tag YH w wm) (hK:pH wm YH (Hc++[n]) vs (s.kN++[⟨[],0,false⟩]) (λ_=>false)) (hM:pZ wm YH bl bm (s.cL++[c]) (rU++[-1]) fO (Hc++[n]) (s.bE++[s.kN.length]) vc vf vr vb qw Qk)
 (i ai:Nat) (hi:i<s.kN.length) (K2:Hc.length=s.kN.length) (Yh:ai=Hc.getD i 0) (v6:Value) (ob:Obj) (vi:Value) (Ia:vi=vs.getD i undef)
 (Hb:w6.ownsRow 0 141 1 v6 ((bC s.kN i).length+1) ((bC s.kN i).map (λj=>aK ((Hc++[n]).getD j 0))++[aK wm.heap.size]))
 (hg:((wm.alloc (.cells #[.slice none 0 0,.int .i64 s.cL.length,.bool false,.bool false] 143)).alloc ob).grownBy w6 vi.ownBlock)
 (Hz:v6.ownBlock=vi.ownBlock\/v6.ownBlock=some ((wm.alloc (.cells #[.slice none 0 0,.int .i64 s.cL.length,.bool false,.bool false] 143)).alloc ob).heap.size)
 (S':bA) (hS:S'={(((s.push ⟨[],0,false⟩).push ⟨[],s.cL.length,false⟩).link i [s.kN.length+1]) with cL:=s.cL++[c],bE:=s.bE++[s.kN.length]}):
 LayO tag bl bm Hc s.cL.length rU fO s.kN.length S' w (.returned (aK n)) (w6.setCell ⟨ai,0,none⟩ v6):=by
 have e0:(Hc++[n]).getD i 0=ai:=by rw[bF (by rw[K2];exact hi),Yh]
 have e1:bC (s.kN++[(⟨[],0,false⟩:bY)]) i=bC s.kN i:=oY hi;subst Ia;obtain⟨YY,vs6,BR,Nr,CY⟩:=cls_end hK hM i (by simp;omega) s.cL.length v6 ob (by rw[e1];exact Hb) hg Hz;rw[e0] at BR Nr CY;subst hS;have el:Hc++[n,wm.heap.size]=Hc++[n]++[wm.heap.size]:=by simp
 refine⟨YY,[n,wm.heap.size],?_,?_,?_,hU.trans (dL.of_k CY)⟩
 . rw[el,bF (by simp;omega),<-K2,cG]
 . rw[el]
   refine⟨vs6,vc,vf,vr,vb,qw,Qk,?_,?_⟩
   . simpa[bA.push,bA.link] using BR
   simpa[bA.push,bA.link] using Nr
 simp[bA.push,bA.link]
theorem zbp (v:Value) (w:World):(Instr.typeAssert (.iface 200 v) 138 200 true).run Tryz.prog w=.ok (.tuple #[v,.bool true]) w:=by kernel_rfl
theorem lay_cls (c:List (Int×Int)):LayC (.cL c):=by
 intro i p s s' w tag bl bm Hc rU fO v hL Qz Hz Yj hT hi Hu Qo;simp only[aX] at hT;obtain⟨sl,rfl,yp,Eg⟩:=hT;obtain⟨so,sn,sc,rfl⟩:∃ so sn sc,sl=.slice so sn sc:=by
  rcases bD yp with⟨e,_⟩|⟨g,cap,e,_⟩
  . exact⟨_,_,_,e⟩
  exact⟨_,_,_,e⟩
 obtain⟨vs,vc,vf,vr,vb,qw,Qk,hK,hM⟩:=hL;rw[eD] at Hu;by_cases kh:64<s.cL.length
 . rw[zP kh] at Hu;cases Hu
 rw[zN kh] at Hu
 cases Hu;have Ex:=zbp (.slice so sn sc);have HK:=zh hK;have HM:=zh hM;have HC:=zh (zAi yp Eg);have HB:=zh Qo;have HN:=zh (zAi Qz (zAi Hz Yj));have VG:=aB w bl 0 _ _ _ hM.hl;have KW:=aB w bm 0 _ _ _ hM.hm;simp only[zLa,zLb] at VG KW;have N8:=bD hM.rc;obtain⟨gc,ka,Ct,dh,oh⟩:∃ g cap,vc=.slice (some ⟨g,0,none⟩) s.cL.length cap/\s.cL.length<=cap/\g<w.heap.size:=by
  rcases N8 with⟨_,h0⟩|h
  . omega
  exact h
 clear N8 hK hM yp Eg Qo Qz Hz;have Md:=zh Ct;obtain⟨ai,Yh⟩:=zE (Hc.getD i 0);have bq:=zh Yh;rw[<-Yh];obtain⟨S',MK⟩:∃ x:bA,x={(((s.push ⟨[],0,false⟩).push ⟨[],s.cL.length,false⟩).link i [s.kN.length+1]) with cL:=s.cL++[c],bE:=s.bE++[s.kN.length]}:=⟨_,rfl⟩;rw[<-MK];have WB:=zh MK;clear Yh MK;have Rq:=zh HM.o.rc;rw[Ct] at VG Rq
 have QC:zH (∀ w1,(w.alloc (.cells #[.slice so sn sc] 200)).grownBy w1 (some gc)->w1.cell? ⟨bm,0,none⟩=some (aK bl)/\w1.cell? ⟨bl,0,none⟩=some (.slice (some ⟨gc,0,none⟩) s.cL.length ka)/\w1.frozen? ⟨bl,0,none⟩=false):=by
  refine zh λw1 hg=> ?_;have hB:=(zBr w.heap.size w).alloc (zR _) (.cells #[.slice so sn sc] 200);have tgc:=HM.o.t3 gc (by rw[Ct];rfl);have k1:w1.heap[bm]?=some (.cells #[aK bl,vb] 136 (0,0)):=(hg.block bm (zLd (aA HM.o.hm) hB.size) (λe=>by cases e;rw[HM.o.tm] at tgc;cases tgc)).trans ((hB.block _ (aA HM.o.hm)).trans HM.o.hm)
  have k2:w1.heap[bl]?=some (.cells #[vc,vf,vr] 132 (0,0)):=(hg.block bl (zLd (aA HM.o.hl) hB.size) (λe=>by cases e;rw[HM.o.tl] at tgc;cases tgc)).trans ((hB.block _ (aA HM.o.hl)).trans HM.o.hl);have e1:=aB w1 bm 0 _ _ _ k1;have e2:=aB w1 bl 0 _ _ _ k2;simp only[zLa,zLb] at e1 e2;rw[Ct] at e2;exact⟨e1,e2,aM w1 bl 0 _ _ k2⟩
 clear Ct;have JN:=zh (QC.o (w.alloc (.cells #[.slice so sn sc] 200)) (eK _ _));go_enter Tryz.func57,Tryz.ntmps57;go_upto_region 7 with (fail)
 go_cut [] (λwx=>∃ QF v1,jD tag QF 3 bl w wx/\pZ wx QF bl bm (s.cL++[c]) rU fO Hc s.bE v1 vf vr vb (qw++[.slice so sn sc]) Qk)
 case first=>
  as_aux_lemma=>
  refine wp_region_noPanic ?_;refine cK (λw'=>w'.cell? ⟨bm,0,none⟩=some (aK bl)/\w'.cell? ⟨bl,0,none⟩=some (.slice (some ⟨gc,0,none⟩) s.cL.length ka)) 16 (by kernel_rfl) ⟨KW,VG⟩ (λHe=> ?_);refine aH 0 He ?_;refine aH 1 He ?_;refine aH 2 He ?_;refine aH 3 He ?_;refine aH 4 He ?_;refine aH 5 He ?_;refine aH 6 He ?_;refine aH 7 He ?_;refine aH 8 He ?_;refine aH 9 He ?_;refine aH 10 He ?_;refine aH 11 He ?_;refine dA 12 (λK hK=> ?_);go_simp;refine hK.out _ _ (λ_=>⟨JN.o.1,JN.o.2.1⟩) ?_;clear hK K He;(try simp only[Act.put,lA,lB,lC]);refine dA 13 (λK hK=> ?_)
  refine jR (by rfl) _ _ (by rfl) elemClass (.slice (some ⟨gc,0,none⟩) s.cL.length ka) s.cL.length (qw) (by rfl) (by exact (Rq.o.alloc _).drew) ⟨w.heap.size,0,none⟩ 1 1 [.slice so sn sc] (by rfl) (by rfl) (cM w #[.slice so sn sc] 200 w.heap.size rfl) (by simp[Value.oneCell']) (by decide) (by omega) (by decide) ?_;intro v1 w1 qg Qq YB;obtain⟨g1,cap1,rfl⟩:=bV qg;have ks:=QC.o w1 ⟨Qq.os,Qq.tape,Qq.output,Qq.size,Qq.block⟩;refine hK.out _ _ (λ_=>⟨ks.1,ks.2.1⟩) ?_;clear hK K;(try simp only[Act.put,lA,lB,lC])
  refine dA 14 (λK hK=> ?_);go_simp;refine hK.out _ _ (λ_=>⟨ks.1,ks.2.1⟩) ?_;clear hK K;(try simp only[Act.put,lA,lB,lC]);refine dA 15 (λK hK=> ?_);go_simp;refine hK.out _ _ (λ_=>⟨ks.1,ks.2.1⟩) ?_;clear hK K;(try simp only[Act.put,lA,lB,lC]);obtain⟨ks1,ks2,ks3⟩:=ks;refine dA 16 (λK hK=> ?_);go_simp;refine hK.out _ _ (λh=>absurd rfl h) ?_;clear hK K;(try simp only[Act.put,lA,lB,lC]);refine fK (by kernel_rfl) ?_;refine NoPanic.normal ?_;go_wp2_with (fail);go_meet
  case rel=>exact HM.o.pushClass (.cells #[.slice so sn sc] 200) Md.o HC.o.1 (λg hg=>(HC.o.2 g hg).1) qg Qq YB
 case rest=>
  obtain⟨QF,v1,Mr,I3⟩:=hcut;have wN:=zh Mr;have JJ:=zh I3;have CH:=zh (Mr.kat HK.o (by decide) (by rw[HM.o.tl];decide));clear Mr I3 VG KW;obtain⟨gr,capr,Cu,Z4,UZ⟩:∃ g cap,vr=.slice (some ⟨g,0,none⟩) rU.length cap/\rU.length<=cap/\g<wc.heap.size:=by
   rcases bD JJ.o.rr with⟨_,h0⟩|h
   . have:=HN.o;omega
   exact h
  have WG:=zh Cu;have Bv:=zh JJ.o.rr;have VG:=aB wc bl 2 _ _ _ JJ.o.hl;have KW:=aB wc bm 0 _ _ _ JJ.o.hm;simp only[zLa,zLb,zLc] at VG KW;rw[Cu] at VG Bv;have Vp:zH (∀ w1,(wc.alloc (.cells #[.int .i64 (-1)] 3)).grownBy w1 (some gr)->w1.cell? ⟨bm,0,none⟩=some (aK bl)/\w1.cell? ⟨bl,2,none⟩=some (.slice (some ⟨gr,0,none⟩) rU.length capr)/\w1.frozen? ⟨bl,2,none⟩=false):=by
   refine zh λw1 hg=> ?_;have hB:=(zBr wc.heap.size wc).alloc (zR _) (.cells #[.int .i64 (-1)] 3);have tgc:=JJ.o.t4 gr (by rw[Cu];rfl);have k1:=(hg.block bm (zLd (aA JJ.o.hm) hB.size) (λe=>by cases e;rw[JJ.o.tm] at tgc;cases tgc)).trans ((hB.block _ (aA JJ.o.hm)).trans JJ.o.hm);have k2:=(hg.block bl (zLd (aA JJ.o.hl) hB.size) (λe=>by cases e;rw[JJ.o.tl] at tgc;cases tgc)).trans ((hB.block _ (aA JJ.o.hl)).trans JJ.o.hl)
   have e1:=aB w1 bm 0 _ _ _ k1;have e2:=aB w1 bl 2 _ _ _ k2;simp only[zLa,zLb,zLc] at e1 e2;rw[Cu] at e2;exact⟨e1,e2,aM w1 bl 2 _ _ k2⟩
  have UX:rU.length+1<=1000000000:=by have:=HN.o;omega
  have fq:=zh (Vp.o (wc.alloc (.cells #[.int .i64 (-1)] 3)) (eK _ _));clear Cu;go_upto_region 8 with (fail)
  go_cut [] (λwx=>∃ Qd v2,jD QF Qd 4 bl wc wx/\pZ wx Qd bl bm (s.cL++[c]) (rU++[-1]) fO Hc s.bE v1 vf v2 vb (qw++[.slice so sn sc]) Qk)
  case first=>
   as_aux_lemma=>
   refine wp_region_noPanic ?_;refine cK (λw'=>w'.cell? ⟨bm,0,none⟩=some (aK bl)/\w'.cell? ⟨bl,2,none⟩=some (.slice (some ⟨gr,0,none⟩) rU.length capr)) 15 (by kernel_rfl) ⟨KW,VG⟩ (λHe=> ?_);refine aH 0 He ?_;refine aH 1 He ?_;refine aH 2 He ?_;refine aH 3 He ?_;refine aH 4 He ?_;refine aH 5 He ?_;refine aH 6 He ?_;refine aH 7 He ?_;refine aH 8 He ?_;refine aH 9 He ?_;refine aH 10 He ?_;refine dA 11 (λK hK=> ?_);go_simp;refine hK.out _ _ (λ_=>⟨fq.o.1,fq.o.2.1⟩) ?_;clear hK K He;(try simp only[Act.put,lA,lB,lC]);refine dA 12 (λK hK=> ?_)
   refine jR (by rfl) _ _ (by rfl) mD (.slice (some ⟨gr,0,none⟩) rU.length capr) rU.length (rU.map (Value.int .i64)) (by rfl) (by exact (Bv.o.alloc _).drew) ⟨wc.heap.size,0,none⟩ 1 1 [.int .i64 (-1)] (by rfl) (by rfl) (cM wc #[.int .i64 (-1)] 3 wc.heap.size rfl) (by simp[Value.oneCell']) (by decide) UX (by decide) ?_;intro v1 w1 qg Qq YB;obtain⟨g1,cap1,rfl⟩:=bV qg;have ks:=Vp.o w1 ⟨Qq.os,Qq.tape,Qq.output,Qq.size,Qq.block⟩;refine hK.out _ _ (λ_=>⟨ks.1,ks.2.1⟩) ?_;clear hK K
   (try simp only[Act.put,lA,lB,lC]);refine dA 13 (λK hK=> ?_);go_simp;refine hK.out _ _ (λ_=>⟨ks.1,ks.2.1⟩) ?_;clear hK K;(try simp only[Act.put,lA,lB,lC]);refine dA 14 (λK hK=> ?_);go_simp;refine hK.out _ _ (λ_=>⟨ks.1,ks.2.1⟩) ?_;clear hK K;(try simp only[Act.put,lA,lB,lC]);obtain⟨ks1,ks2,ks3⟩:=ks;refine dA 15 (λK hK=> ?_);go_simp;refine hK.out _ _ (λh=>absurd rfl h) ?_;clear hK K;(try simp only[Act.put,lA,lB,lC]);refine fK (by kernel_rfl) ?_;refine NoPanic.normal ?_;go_wp2_with (fail);go_meet
   case rel=>exact JJ.o.pushRule (.cells #[.int .i64 (-1)] 3) WG.o qg Qq YB
  case rest=>
   obtain⟨Qd,v2,Ms,I4⟩:=hcut;have EB:=zh Ms;have QR:=zh I4;have VU:=zh (Ms.kat CH.o (by decide) (by rw[JJ.o.tl];decide));clear Ms I4 VG KW;have JI:=zh (VU.o.push 0 rfl);have TR:=zh (oF.push Qd wc (.cells #[.slice none 0 0,.int .i64 (0:Nat),.bool false,.bool false] 143) (10+2*s.kN.length));have tQ:=zh (QR.o.apart (ext:=[wc.heap.size]) TR.o);generalize Kv:wc.alloc (.cells #[.slice none 0 0,.int .i64 (0:Nat),.bool false,.bool false] 143)=wk at JI TR tQ
   generalize dB Qd wc.heap.size (10+2*s.kN.length)=xe at JI TR tQ;have WJ:=zh Kv;clear Kv;go_upto_region 10 with (fail)
   have Kv:=WJ.o;rw[Int.ofNat_zero] at Kv;rw[Kv];clear Kv;have F9:=aB wk bm 1 _ _ _ tQ.o.hm;simp only[zLa,zLb,zLc] at F9;have Xo:s.bE.length+1<=1000000000:=by have:=HN.o;omega
   have PR:zH (∀ w1,(wk.alloc (.cells #[aK wc.heap.size] 141)).grownBy w1 vb.ownBlock->w1.cell? ⟨bm,1,none⟩=some vb/\w1.frozen? ⟨bm,1,none⟩=false/\bm<w1.heap.size):=
    zh λw1 hg=>jV tQ.o.hm (λe=>by have:=tQ.o.t5 bm e;rw[tQ.o.tm] at this;cases this) hg
   go_upto_region 11 with (at_builtin;refine dI rfl iQ rfl (by exact (tQ.o.rb.alloc _)) [aK wc.heap.size] Xo ?_;intro v4 w4 Ho qj Qb;obtain⟨g4,Hx,rfl⟩:=bV Ho;obtain⟨k1,k2,k3⟩:=PR.o _ qj)
   have FP:(Hc++[wc.heap.size]).getD s.kN.length 0=wc.heap.size:=by rw[<-HK.o.la,cG]
   have EE:=zh FP;clear FP;obtain⟨YH,v5,Mt,MG⟩:=tQ.o.pushBehind (w1:=w4) (V:=vb) (j:=s.kN.length) (by rw[zLn,HK.o.la];simp) (.cells #[aK wc.heap.size] 141) rfl (by rw[EE.o];exact Ho) qj Qb;rw[EE.o] at MG;have rz:=zh Mt;have Rj:=zh MG;have pe:=zh (Mt.kat JI.o (by decide) (by rw[tQ.o.tm];decide));clear Mt MG Ho qj Qb k1 k2 k3 F9;generalize w4.setCell ⟨bm,1,none⟩ (.slice (some ⟨g4,0,none⟩) (s.bE.length+1) Hx)=wm at rz Rj pe ⊢
   have Ko:(s.kN++[(⟨[],0,false⟩:bY)]).length=s.kN.length+1:=by simp
   have Ld:i<(s.kN++[(⟨[],0,false⟩:bY)]).length:=by rw[Ko];omega
   have AU:(Hc++[wc.heap.size]).getD i 0=ai:=by rw[bF (by rw[HK.o.la];exact hi),bq.o]
   have Bf:=zh (pe.o.cell i Ld);rw[AU] at Bf;have XU:=aB wm ai 0 _ _ _ Bf.o;simp only[zLa,zLb] at XU;have lk0:=aA Bf.o;have jz:=zh (pe.o.row i Ld);have Rz:=zh (pe.o.tv i · Ld);have BH:=zh (pe.o.ta i Ld);rw[AU] at BH;have XC:bC (s.kN++[(⟨[],0,false⟩:bY)]) i=bC s.kN i:=oY hi;rw[XC] at jz;obtain⟨vi,Ia⟩:=zE ((vs++[Value.slice none 0 0]).getD i undef);rw[<-Ia] at XU jz Rz Bf;have WE:=zh Ia
   have Cp:(bC s.kN i).length+1<=1000000000:=by
    have h1:=HB.o i;have h2:bC (((s.kN++[(⟨[],0,false⟩:bY)])++[(⟨[],s.cL.length,false⟩:bY)]).modify i (nT [s.kN.length+1])) i=bC s.kN i++[s.kN.length+1]:=by
     rw[qW (by simp;omega),oY (by simp;omega),XC]
    have h3:((bC s.kN i)++[s.kN.length+1]).length<=1000000:=by rw[<-h2];exact h1
    simp at h3;omega
   have TA:zH (∀ w1,((wm.alloc (.cells #[.slice none 0 0,.int .i64 s.cL.length,.bool false,.bool false] 143)).alloc (.cells #[aK wm.heap.size] 141)).grownBy w1 vi.ownBlock->w1.cell? ⟨ai,0,none⟩=some vi/\w1.frozen? ⟨ai,0,none⟩=false/\ai<w1.heap.size):=by
    refine zh λw1 hg=> ?_;have hb:=(zBr wm.heap.size wm).alloc (zR _) (.cells #[.slice none 0 0,.int .i64 s.cL.length,.bool false,.bool false] 143);exact jV ((hb.block _ lk0).trans Bf.o) (λe=>by have:=Rz.o ai e;rw[BH.o] at this;omega) hg
   clear AU Ia XC Ko;go_wp2_with (at_builtin;refine dI rfl iQ rfl (by exact ((jz.o.alloc _).alloc _)) [aK wm.heap.size] Cp ?_;intro v6 w6 Ks AW Uv;obtain⟨g6,Y8,rfl⟩:=bV Ks;obtain⟨k1,k2,k3⟩:=TA.o _ AW);go_ret
   have hU:dL tag YH w wm:=(dL.of_a wN.o (by decide) (by rw[HM.o.tl];decide)).trans ((dL.of_a EB.o (by decide) (by rw[JJ.o.tl];decide)).trans ((dL.of_k TR.o).trans (dL.of_a rz.o (by decide) (by rw[tQ.o.tm];decide))));exact cls_fin hU pe.o Rj.o i ai hi HK.o.la bq.o _ (.cells #[aK wm.heap.size] 141) vi WE.o Ks AW Uv S' WB.o
theorem sW (v:Value) (w:World):(Instr.typeAssert (.iface 202 v) 138 200 true).run Tryz.prog w=.ok (.tuple #[.slice none 0 0,.bool false]) w:=by kernel_rfl
theorem zbr (v:Value) (w:World):(Instr.typeAssert (.iface 202 v) 138 202 true).run Tryz.prog w=.ok (.tuple #[v,.bool true]) w:=by kernel_rfl
theorem sU (v:Value) (w:World):(Instr.typeAssert (.iface 206 v) 138 200 true).run Tryz.prog w=.ok (.tuple #[.slice none 0 0,.bool false]) w:=by kernel_rfl
theorem sV (v:Value) (w:World):(Instr.typeAssert (.iface 206 v) 138 202 true).run Tryz.prog w=.ok (.tuple #[.slice none 0 0,.bool false]) w:=by kernel_rfl
theorem pM (v:Value) (w:World):(Instr.typeAssert (.iface 206 v) 138 204 true).run Tryz.prog w=.ok (.tuple #[.agg #[.nilIface,.nilIface],.bool false]) w:=by kernel_rfl
theorem zbq (v:Value) (w:World):(Instr.typeAssert (.iface 206 v) 138 206 true).run Tryz.prog w=.ok (.tuple #[v,.bool true]) w:=by kernel_rfl
theorem xD (v:Value) (w:World):(Instr.typeAssert (.iface 204 v) 138 200 true).run Tryz.prog w=.ok (.tuple #[.slice none 0 0,.bool false]) w:=by kernel_rfl
theorem xE (v:Value) (w:World):(Instr.typeAssert (.iface 204 v) 138 202 true).run Tryz.prog w=.ok (.tuple #[.slice none 0 0,.bool false]) w:=by kernel_rfl
theorem xF (v:Value) (w:World):(Instr.typeAssert (.iface 204 v) 138 204 true).run Tryz.prog w=.ok (.tuple #[v,.bool true]) w:=by kernel_rfl
theorem vH (t:aJ) (l:List aJ) (i:Nat) (s:bA):mY (t::l) i s=match eD t i s with|none=>none|some (p,s2)=>mY l p s2:=by rw[mY];rfl
def bL (s s':bA):Prop:=s.kN.length<=s'.kN.length/\s.cL.length<=s'.cL.length/\s'.bE.length+s.cL.length=s.bE.length+s'.cL.length/\∀ k,(bC s.kN k).length<=(bC s'.kN k).length
theorem bL.refl (s:bA):bL s s:=⟨zR _,zR _,rfl,λ_=>zR _⟩
theorem bL.trans {a b c:bA} (h:bL a b) (k:bL b c):bL a c:=by
 obtain⟨h1,h2,h3,h4⟩:=h;obtain⟨k1,k2,k3,k4⟩:=k;exact⟨by omega,by omega,by omega,λi=>zT (h4 i) (k4 i)⟩
theorem bL.push (s:bA) (k:bY):bL s (s.push k):=by
 refine⟨by simp[bA.push],zR _,rfl,λi=> ?_⟩;show (bC s.kN i).length<=(bC (s.kN++[k]) i).length
 rcases zLg i s.kN.length with h|h
 . rw[oY h];exact zR _
 unfold bC;rw[zGn h];simp
theorem bL.link (s:bA) (i:Nat) (l:List Nat):bL s (s.link i l):=by
 refine⟨by simp[bA.link],zR _,rfl,λj=> ?_⟩;show (bC s.kN j).length<=(bC (s.kN.modify i (nT l)) j).length;by_cases e:i=j
 . subst e
   rcases zLg i s.kN.length with h|h
   . rw[qW h];simp
   unfold bC;rw[zGn h];simp
 rw[zax e];exact zR _
mutual
theorem fY:∀ (t:aJ) (i p:Nat) (s s':bA),eD t i s=some (p,s')->bL s s'
 | .cL c,i,p,s,s',h=>by
  rw[eD] at h;split at h
  . cases h
  . cases h
    have h1:=((bL.push s ⟨[],0,false⟩).trans (bL.push _ ⟨[],s.cL.length,false⟩)).trans (bL.link _ i [s.kN.length+1]);exact⟨h1.1,by simp,by simp;omega,h1.2.2.2⟩
 | .row l,i,p,s,s',h=>by
  rw[eD] at h;exact xY l i p s s' h
 | .either a b,i,p,s,s',h=>by
  rw[eD] at h;split at h
  . cases h
  . rename_i p1 s2 e1
    split at h
    . cases h
    . rename_i q s3 e2
      cases h;have h0:=(((bL.push s ⟨[],0,false⟩).trans (bL.push _ ⟨[],0,false⟩)).trans (bL.push _ ⟨[],0,false⟩)).trans (bL.link _ i [s.kN.length,s.kN.length+1]);exact h0.trans ((fY a _ _ _ _ e1).trans ((fY b _ _ _ _ e2).trans ((bL.link _ _ _).trans (bL.link _ _ _))))
 | .rep t m o,i,p,s,s',h=>by
  rw[eD] at h;split at h
  . cases h
  rename_i p1 s2 e1
  cases h;have h0:=((bL.push s ⟨[],0,false⟩).trans (bL.push _ ⟨[],0,false⟩)).trans (bL.link _ i [s.kN.length]);refine h0.trans ((fY t _ _ _ _ e1).trans ?_);cases o<;>by_cases hm:m=0<;>simp only[hm,if_true,if_false,Bool.false_eq_true]
  . exact ((bL.link _ _ _).trans (bL.link _ _ _)).trans (bL.link _ _ _)
  . exact (bL.link _ _ _).trans (bL.link _ _ _)
  . exact (bL.link _ _ _).trans (bL.link _ _ _)
  exact bL.link _ _ _
theorem xY:∀ (l:List aJ) (i p:Nat) (s s':bA),mY l i s=some (p,s')->bL s s'
 | [],i,p,s,s',h=>by
  rw[mY] at h;cases h;exact bL.refl _
 | t::l,i,p,s,s',h=>by
  rw[vH] at h;cases e:eD t i s with
  | none=>rw[e] at h;cases h
  | some x=>
   obtain⟨q,s2⟩:=x;rw[e] at h;exact (fY t _ _ _ _ e).trans (xY l _ _ _ _ h)
end
theorem zcn (rU:List Int) (a b c:Nat) (h1:a<=b) (h2:b<=c):(rU++List.replicate (b-a) (-1:Int))++List.replicate (c-b) (-1)=rU++List.replicate (c-a) (-1):=by
 rw[List.append_assoc,List.replicate_append_replicate];congr 2;omega
structure RowSt (l:List aJ) (p:Nat) (s s':bA) (tag:Nat->Nat) (bl bm:Nat) (Hc:List Nat) (rU:List Int) (fO:List aW) (w:World) (k pk:Nat) (sk:bA) (qc:Nat->Nat) (ext:List Nat) (wr:World):Prop where
 lay:gZ wr qc bl bm (Hc++ext) sk (rU++List.replicate (sk.cL.length-s.cL.length) (-1)) fO
 lt:pk<sk.kN.length
 upd:dL tag qc w wr
 rest:mY (l.drop k) pk sk=some (p,s')
 later:bL s sk
theorem lay_row (l:List aJ) (ih:∀ t∈l,LayC t):LayC (.row l):=by
 intro i p s s' w tag bl bm Hc rU fO v hL Qz Hz Yj hT hi Hu Qo;rw[eD] at Hu;simp only[aX] at hT;obtain⟨sl,vs,rfl,h2,h3,h4⟩:=hT;have IH:=zh ih;have H2:=zh h2;have H3:=zh h3;have H4:=zh h4;have HB:=zh Qo;have HN:=zh (zAi Qz (zAi Hz Yj));have VR:RowSt l p s s' tag bl bm Hc rU fO w 0 i s tag [] w:=⟨by simpa using hL,hi,dL.refl _ _,by simpa using Hu,bL.refl _⟩;have Hq:=zh VR;have yv:=bD h2;have A9:(l.length:Int)<=9223372036854775807:=by
  have:l.length<=maxLen:=by rcases h2.2 with⟨_,h⟩|⟨_,_,_,_,_,_,h,h',_⟩<;>omega
  unfold maxLen at this;omega
 obtain⟨ai,Yh⟩:=zE (Hc.getD i 0);rw[<-Yh];have bq:=zh Yh;clear ih h2 h3 h4 hL Qz Hz Hu Qo VR Yh;have KS:=λv=>sW v;have Uq:=λv=>zbr v
 rcases yv with⟨rfl,hn⟩|⟨g,cap,rfl,Xp,hg⟩
 . have QG:l=[]:=List.eq_nil_of_length_eq_zero hn
   subst QG;have hr:=Hq.o.rest;simp only[List.drop_nil,mY] at hr;cases hr;go_enter Tryz.func57,Tryz.ntmps57;go_wp2_with (fail);refine wp_loop_rounds 1 ?_;rw[rounds_succ];go_wp2_with (fail);go_ret;exact⟨tag,[],by rw[List.append_nil,<-bq.o];rfl,by simpa using Hq.o.lay,hi,dL.refl _ _⟩
 go_enter Tryz.func57,Tryz.ntmps57
 go_wp2_with (fail);go_loopw [2,99] (λs2 s99 wr=>∃ (k pk:Nat) (sk:bA) (qc:Nat->Nat) (ext:List Nat) (ak:Nat),s99=.int .i64 k/\k<=l.length/\s2=aK ak/\ak=(Hc++ext).getD pk 0/\RowSt l p s s' tag bl bm Hc rU fO w k pk sk qc ext wr) (λ_ s99 _=>l.length-(RowKit.intOf s99).toNat)
 case atStart=>exact⟨0,i,s,tag,[],ai,rfl,by omega,rfl,by rw[List.append_nil];exact bq.o,Hq.o⟩
 case round=>
  obtain⟨k,pk,sk,qc,ext,ak,rfl,hk,rfl,jc,hR⟩:=hrel;have HR:=zh hR;have JG:=zh jc;clear hR jc;by_cases Hf:k<l.length
  . have hz:(k:Int)<(l.length:Int):=by omega
    obtain⟨t,ht⟩:=zG l k Hf;obtain⟨u,hu,Cs⟩:=H4.o.get k t ht;have Q2:l.drop k=t::l.drop (k+1):=by rw[List.drop_eq_getElem_cons Hf];congr 1;rw[zLe Hf] at ht;exact zO ht
    have Ha:=HR.o.rest;rw[Q2,vH] at Ha;cases hx:eD t pk sk with
    | none=>rw[hx] at Ha;cases Ha
    | some qs=>
     obtain⟨q,s2⟩:=qs;rw[hx] at Ha;simp only at Ha;have XI:=zh Ha;have U6:=aX.upd HR.o.upd Cs;have x8:wr.cell? ⟨g,k,none⟩=some u:=by
      have Hb:wr.ownsRow 0 138 1 (.slice (some ⟨g,0,none⟩) l.length cap) l.length vs:=aU H2.o λb hb=>HR.o.upd.keep b (H3.o b hb).2 (.inr (H3.o b hb).1);exact aE Hb _ _ hu
     obtain⟨x,rfl,_⟩:=iS t u _ wr U6;have kx:=xY _ _ _ _ _ Ha;have Pv:=fY _ _ _ _ _ hx;have QK:=zh (zAi kx Pv);have Hh:=IH.o t (zM ht) pk q sk s2 wr qc bl bm (Hc++ext) (rU++List.replicate (sk.cL.length-s.cL.length) (-1)) fO _ HR.o.lay
      (by have:=HN.o;have:=HR.o.later;unfold bL at this;simp;omega) (by have:=HN.o;have:=HR.o.later;unfold bL at this;omega) (by have:=HN.o;have:=HR.o.later;unfold bL at this;omega) U6 HR.o.lt hx
      (λj=>zT (kx.2.2.2 j) (HB.o j))
     rw[<-JG.o] at Hh;have qi:=zh Hh;clear hx Ha Cs U6 Q2 ht hu kx Pv Hh;go_wp2_with (fail);refine qi.o.mono ?_;rintro e w2 ⟨Qd,ext2,rfl,Ap,hq,CX⟩;have KH:=zh Ap;have tW:=zh CX;clear Ap CX;obtain⟨a2,Pg⟩:∃ y,y=(Hc++ext++ext2).getD q 0:=⟨_,rfl⟩;rw[<-Pg];have EB:=zh Pg;clear Pg;go_wp2_with (fail);go_roundw
     case rel=>
      refine⟨k+1,q,s2,Qd,ext++ext2,a2,by go_num,by omega,rfl,by rw[<-List.append_assoc];exact EB.o,?_,hq,HR.o.upd.trans tW.o,XI.o,HR.o.later.trans QK.o.2⟩;have Yt:=KH.o;rw[zcn rU _ _ _ HR.o.later.2.1 QK.o.2.2.1] at Yt;rw[<-List.append_assoc];exact Yt
     case measure=>(simp[zI]<;>omega)
  have hz:¬ (k:Int)<(l.length:Int):=by omega
  have Y1:k=l.length:=by omega
  have hr:=HR.o.rest;rw[Y1,List.drop_length,mY] at hr;cases hr;clear Y1;go_wp2_with (fail);go_ret;exact⟨qc,ext,by rw[<-JG.o];rfl,HR.o.lay,HR.o.lt,HR.o.upd⟩
structure Ready (w:World) (tag:Nat->Nat) (Hc:List Nat) (G:List bY) (i ai:Nat) (vi:Value):Prop where
 cell:w.cell? ⟨ai,0,none⟩=some vi
 free:w.frozen? ⟨ai,0,none⟩=false
 lt:ai<w.heap.size
 row:w.ownsRow 0 141 1 vi (bC G i).length ((bC G i).map λj=>aK (Hc.getD j 0))
 kept:∀ ob w1,(w.alloc ob).grownBy w1 vi.ownBlock->w1.cell? ⟨ai,0,none⟩=some vi/\w1.frozen? ⟨ai,0,none⟩=false/\ai<w1.heap.size
theorem pH.ready {seen:Nat->Bool} (h:pH w tag Hc vs G seen) (i:Nat) (hi:i<G.length):Ready w tag Hc G i (Hc.getD i 0) (vs.getD i undef):=by
 have hc:=h.cell i hi;have h0:=aB w (Hc.getD i 0) 0 _ _ _ hc;simp only[zLa,zLb] at h0;refine⟨h0,aM w _ 0 _ _ hc,aA hc,h.row i hi,λob w1 hg=> ?_⟩;exact jV hc (λe=>by have:=h.tv i _ hi e;rw[h.ta i hi] at this;omega) hg
structure fF (tag:Nat->Nat) (bl bm:Nat) (w:World) (s:bA) (rU:List Int) (fO:List aW) (Hc:List Nat) (qc:Nat->Nat) (wr:World):Prop where
 lay:gZ wr qc bl bm Hc s rU fO
 upd:dL tag qc w wr
theorem fF.alloc (h:fF tag bl bm w s rU fO Hc qc wr) (o:Obj):fF tag bl bm w s rU fO Hc qc (wr.alloc o):=by
 obtain⟨vs,vc,vf,vr,vb,qw,Qk,hK,hM⟩:=h.lay;have hb:=(zBr wr.heap.size wr).alloc (zR _) o;have hk:=oF.below (tag:=qc) hb;exact⟨⟨vs,vc,vf,vr,vb,qw,Qk,hK.below hb,by have:=hM.apart (ext:=[]) hk;rwa [List.append_nil] at this⟩,h.upd.trans (dL.of_k hk)⟩
theorem fF.push (h:fF tag bl bm w s rU fO Hc qc wr):
 ∃ Hd,fF tag bl bm w (s.push ⟨[],0,false⟩) rU fO (Hc++[wr.heap.size]) Hd (wr.alloc (.cells #[.slice none 0 0,.int .i64 0,.bool false,.bool false] 143)):=by
 obtain⟨vs,vc,vf,vr,vb,qw,Qk,hK,hM⟩:=h.lay;have hU:=oF.push qc wr (.cells #[.slice none 0 0,.int .i64 (0:Nat),.bool false,.bool false] 143) (10+2*s.kN.length);exact⟨_,⟨⟨_,vc,vf,vr,vb,qw,Qk,hK.push 0 rfl,hM.apart hU⟩,h.upd.trans (dL.of_k hU)⟩⟩
theorem fF.len (h:fF tag bl bm w s rU fO Hc qc wr):Hc.length=s.kN.length:=by
 obtain⟨_,_,_,_,_,_,_,hK,_⟩:=h.lay;exact hK.la
theorem fF.ready (h:fF tag bl bm w s rU fO Hc qc wr) (i:Nat) (hi:i<s.kN.length):
 ∃ vi,Ready wr qc Hc s.kN i (Hc.getD i 0) vi/\∀ (l:List Nat),(∀ j∈l,j<s.kN.length)->∀ (ob:Obj) (w1:World) (v':Value),w1.ownsRow 0 141 1 v' ((bC s.kN i).length+l.length) ((bC s.kN i).map (λj=>aK (Hc.getD j 0))++l.map λj=>aK (Hc.getD j 0))->
  (wr.alloc ob).grownBy w1 vi.ownBlock->(v'.ownBlock=vi.ownBlock\/v'.ownBlock=some (wr.alloc ob).heap.size)->∃ Hd,fF tag bl bm w (s.link i l) rU fO Hc Hd (w1.setCell ⟨Hc.getD i 0,0,none⟩ v'):=by
 obtain⟨vs,vc,vf,vr,vb,qw,Qk,hK,hM⟩:=h.lay;refine⟨_,hK.ready i hi,λl hl ob w1 v' Hb hg Hz=> ?_⟩;obtain⟨Hd,h1,h2⟩:=hK.link i hi l hl ob v' Hb hg Hz;exact⟨Hd,⟨⟨_,vc,vf,vr,vb,qw,Qk,h1,by have:=hM.apart (ext:=[]) h2;rwa [List.append_nil] at this⟩,h.upd.trans (dL.of_k h2)⟩⟩
theorem fF.alloc0 (h:fF tag bl bm w s rU fO Hc qc wr) (o:Obj):
 fF tag bl bm w s rU fO Hc (dB qc wr.heap.size 0) (wr.alloc o):=by
 obtain⟨vs,vc,vf,vr,vb,qw,Qk,hK,hM⟩:=h.lay;have hk:=oF.push qc wr o 0;have hb:=(zBr wr.heap.size wr).alloc (zR _) o;refine⟨⟨vs,vc,vf,vr,vb,qw,Qk,hK.apart hk.tags λb hx _=>hb.block b hx,by have:=hM.apart (ext:=[]) hk;rwa [List.append_nil] at this⟩,h.upd.trans (dL.of_k hk)⟩
theorem fF.push2 (h:fF tag bl bm w s rU fO Hc qc wr):
 ∃ Hd,fF tag bl bm w (s.push ⟨[],0,false⟩) rU fO (Hc++[wr.heap.size]) Hd (wr.alloc (.cells #[.slice none 0 0,.int .i64 0,.bool false,.bool false] 143))/\∀ b,b<wr.heap.size->Hd b=qc b:=by
 obtain⟨vs,vc,vf,vr,vb,qw,Qk,hK,hM⟩:=h.lay;have hU:=oF.push qc wr (.cells #[.slice none 0 0,.int .i64 (0:Nat),.bool false,.bool false] 143) (10+2*s.kN.length);exact⟨_,⟨⟨_,vc,vf,vr,vb,qw,Qk,hK.push 0 rfl,hM.apart hU⟩,h.upd.trans (dL.of_k hU)⟩,hU.tags⟩
theorem zaP {xe tagz:Nat->Nat} {n0 c3 c4 p:Nat} {w3 wz:World} {s':bA} {XN:List Nat} (h:fF xe bl bm w3 s' (rU++List.replicate (c4-c3) (-1)) fO XN tagz wz) (hU:dL tag xe w w3)
 (he:∃ ext,XN=Hc++ext) (lm:s'.cL.length=c4) (AJ:c3=n0) (hp:p<s'.kN.length) (b:Nat) (hb:b=XN.getD p 0):LayO tag bl bm Hc n0 rU fO p s' w (.returned (aK b)) wz:=by
 obtain⟨ext,rfl⟩:=he;subst lm AJ hb;exact⟨tagz,ext,rfl,h.lay,hp,hU.trans h.upd⟩
theorem lay_rep (t:aJ) (m:Int) (o:Bool) (ih:LayC t):LayC (.rep t m o):=by
 intro i p s s' w tag bl bm Hc rU fO v hL Qz Hz Yj hT hi Hu Qo;rw[eD] at Hu;simp only[aX] at hT;obtain⟨u,rfl,hu⟩:=hT;obtain⟨x,rfl,_⟩:=iS t u _ w hu;obtain⟨ai,Yh⟩:=zE (Hc.getD i 0);rw[<-Yh];have KS:=λv=>sU v;have Uq:=λv=>sV v;have PY:=λv=>pM v;have PZ:=λv=>zbq v;have N0:fF tag bl bm w s rU fO Hc tag w:=⟨hL,dL.refl _ _⟩;have Hg:=N0.len;have N1:=N0.alloc0 (.cells #[.iface (eP t) x,.int .i64 m,.bool o] 206)
 obtain⟨Qd,N2,Yv⟩:=N1.push2;obtain⟨xe,N3,VX⟩:=N2.push2;obtain⟨n,hn⟩:=zE (s.kN.length);obtain⟨st,Hl⟩:=zE (w.heap.size);obtain⟨S2,QD⟩:=zE ((s.push ⟨[],0,false⟩).push ⟨[],0,false⟩);obtain⟨qd,ql⟩:=zE (Hc++[(w.alloc (.cells #[.iface (eP t) x,.int .i64 m,.bool o] 206)).heap.size]++[((w.alloc (.cells #[.iface (eP t) x,.int .i64 m,.bool o] 206)).alloc (.cells #[.slice none 0 0,.int .i64 0,.bool false,.bool false] 143)).heap.size])
 obtain⟨w3,YG⟩:=zE (((w.alloc (.cells #[.iface (eP t) x,.int .i64 m,.bool o] 206)).alloc (.cells #[.slice none 0 0,.int .i64 0,.bool false,.bool false] 143)).alloc (.cells #[.slice none 0 0,.int .i64 0,.bool false,.bool false] 143));rw[<-ql,<-YG,<-QD] at N3;have M0:fF xe bl bm w3 S2 rU fO qd xe w3:=⟨N3.lay,dL.refl _ _⟩;have U3:=N3.upd;have Vw:S2.kN.length=n+2:=by rw[QD,hn];simp[bA.push]
 have P7:=M0.len;have sto:w3.heap[st]?=some (.cells #[.iface (eP t) x,.int .i64 m,.bool o] 206 (0,0)):=by
  rw[YG,Hl,aN,zN (by simp;omega),aN,zN (by simp),aN,zP rfl]
 have stt:xe st=0:=by
  rw[VX st (by simp[Hl];omega),Yv st (by simp[Hl]),Hl];simp[dB]
 have stl:st<w3.heap.size:=aA sto;have kA:st+1=qd.getD n 0:=by
  rw[ql,bF (by simp[Hg,hn]),hn,<-Hg,cG,Hl];simp
 have kB:st+1+1=qd.getD (n+1) 0:=by
  rw[ql,show n+1=(Hc++[(w.alloc (.cells #[.iface (eP t) x,.int .i64 m,.bool o] 206)).heap.size]).length by simp[Hg,hn],cG,Hl];simp
 have aI:ai=qd.getD i 0:=by
  rw[ql,bF (by simp[Hg];omega),bF (by rw[Hg];exact hi)];exact Yh
 rw[<-hn,<-QD] at Hu;obtain⟨S3,X2⟩:=zE (S2.link i [n]);have L3:=bL.link S2 i [n];rw[<-X2] at Hu L3;cases hx:eD t n S3 with
 | none=>rw[hx] at Hu;cases Hu
 | some pq=>
 obtain⟨p1,S4⟩:=pq;rw[hx] at Hu;simp only[Option.some.injEq,Prod.mk.injEq] at Hu;obtain⟨rfl,X8⟩:=Hu;have L4:=fY _ _ _ _ _ hx;obtain⟨S5,e7⟩:=zE (S4.link p1 [n+1]);have L5:=bL.link S4 p1 [n+1];rw[<-e7] at X8 L5;obtain⟨S6,PX⟩:=zE ((if o=true then S5 else S5.link p1 [n]));have L6:bL S5 S6:=by rw[PX];split;exact bL.refl _;exact bL.link _ _ _
 rw[<-PX] at X8;have L7:bL S6 s':=by rw[<-X8];split;exact bL.link _ _ _;exact bL.refl _
 have ja:=zh (aX.upd U3 hu);have tP:=zh M0;have Aj:=zh U3;have Hq:=zh (zAi sto (zAi stt stl));have J6:=zh aI;have yn:i<S2.kN.length:=by rw[Vw];omega
 have HL:=zh (zAi yn (zAi (show n<S2.kN.length by omega) (show n+1<S2.kN.length by omega)));have QK:=zh (zAi L3 (zAi L4 (zAi L5 (zAi L6 L7))));have HS:=zh (zAi X2 (zAi e7 (zAi PX X8)));have HX:=zh hx;have HB:=zh Qo;have HN:=zh (zAi Qz (zAi Hz Yj));have YJ:=zh (show S2.cL=s.cL/\S2.bE=s.bE by rw[QD];exact⟨rfl,rfl⟩);have Ba:=zh (show ∃ ext,qd=Hc++ext from⟨_,by rw[ql,List.append_assoc]⟩)
 obtain⟨a1,xz⟩:∃ y,y=st+1:=⟨_,rfl⟩;obtain⟨b1,x5⟩:∃ y,y=st+1+1:=⟨_,rfl⟩;have tN:=zh (show a1=qd.getD n 0 by rw[xz,kA]);have nw:=zh (show b1=qd.getD (n+1) 0 by rw[x5,kB]);have xk:=zh (zAi YG (zAi Hl (zAi xz x5)));clear YG Hl xz x5 kA kB M0 U3 sto stt stl aI Yh yn L3 L4 L5 L6 L7 X2 e7 PX X8 hx Qo Qz Hz Yj N0 N1 N2 N3 Yv VX P7 hu QD Vw ql Hg hn hL;go_enter Tryz.func57,Tryz.ntmps57;go_upto_region 34 with (fail)
 rw[<-xk.o.1,<-xk.o.2.1,<-xk.o.2.2.1,<-show b1=a1+1 by rw[xk.o.2.2.2,xk.o.2.2.1]];clear KS Uq PY PZ;obtain⟨vi1,Q9,Y9⟩:=tP.o.ready i HL.o.1;rw[<-J6.o] at Q9 Y9;have c1:=Q9.cell;have p7:=zh Q9.row;have pg:=zh Q9.kept;have ph:=zh Y9;have VD:(bC S2.kN i).length+1<=1000000000:=(by have h0:=HB.o i;have h:=QK.o;unfold bL at h;have h1:=h.1.2.2.2 i;have h2:=h.2.1.2.2.2 i;have h3:=h.2.2.1.2.2.2 i;have h4:=h.2.2.2.1.2.2.2 i;have h5:=h.2.2.2.2.2.2.2 i;omega)
 clear Q9 Y9;go_upto_region 35 with (at_builtin;refine dI rfl iQ rfl (by exact (p7.o.alloc _)) [aK a1] VD ?_;intro va1 wa1 Xb x9 VB;obtain⟨ga1,ca1,rfl⟩:=bV Xb;obtain⟨ka1,kb1,kc1⟩:=pg.o _ _ x9)
 obtain⟨J5,Q5⟩:=ph.o [n] (λj hj=>by rw[zMs] at hj;subst hj;exact HL.o.2.1) (.cells #[aK a1] 141) wa1 _ (by rw[show ([n].map λj=>aK (qd.getD j 0))=[aK a1] from congrArg (λz=>[aK z]) tN.o.symm];exact Xb) x9 VB;have QH:=zh Q5;clear Q5 Xb x9 VB ka1 kb1 kc1 c1 VD;generalize wa1.setCell ⟨ai,0,none⟩ (.slice (some ⟨ga1,0,none⟩) ((bC S2.kN i).length+1) ca1)=jo at QH ⊢;have Q5:=QH.o;rw[<-HS.o.1] at Q5;have qx:=(Q5.upd.keep st Hq.o.2.2 (.inl Hq.o.2.1)).trans Hq.o.1
 have d0:jo.cell? ⟨st,0,none⟩=some (.iface (eP t) x):=by have h0:=aB _ _ 0 _ _ _ qx;simpa using h0
 have Hh:=ih n p1 S3 S4 jo J5 bl bm qd rU fO _ Q5.lay (by have h:=QK.o.1;unfold bL at h;have:=HN.o;have:=YJ.o;rw[HS.o.1];simp only[bA.link];rw[this.1];omega)
  (by have:=HN.o;have:=YJ.o;rw[HS.o.1];simp only[bA.link];rw[this.1,this.2];omega) (by have:=HN.o;have:=YJ.o;rw[HS.o.1];simp only[bA.link];rw[this.1];omega)
  (aX.upd Q5.upd ja.o) (by have h:=QK.o.1;have:=HL.o;unfold bL at h;omega) HX.o
  (λk=>by have h0:=HB.o k;have h:=QK.o;unfold bL at h;have h3:=h.2.2.1.2.2.2 k;have h4:=h.2.2.2.1.2.2.2 k;have h5:=h.2.2.2.2.2.2.2 k;omega)
 rw[<-tN.o] at Hh;have qi:=zh Hh;have Bn:=zh Q5;clear Hh Q5 qx;go_wp2_with (fail);refine qi.o.mono ?_;rintro e w5 ⟨QQ,YT,rfl,Ta,TL,Vy⟩;have QG:=tP.o.len;obtain⟨XN,Kf⟩:=zE (qd++YT);obtain⟨ap,Ja⟩:=zE (XN.getD p1 0);rw[<-Kf] at Ta;rw[<-Kf,<-Ja];have HP:=zh Ja;have Be:=zh (show a1=XN.getD n 0 by rw[Kf,bF (by rw[QG];exact HL.o.2.1)];exact tN.o)
 have pf:=zh (show b1=XN.getD (n+1) 0 by rw[Kf,bF (by rw[QG];exact HL.o.2.2)];exact nw.o);have PL:=zh (show ∃ ext,XN=Hc++ext by obtain⟨e,he⟩:=Ba.o;exact⟨e++YT,by rw[Kf,he,List.append_assoc]⟩);have CL:=zh (show fF xe bl bm w3 S4 (rU++List.replicate (S4.cL.length-S3.cL.length) (-1)) fO XN QQ w5 from⟨Ta,Bn.o.upd.trans Vy⟩);have E6:=zh TL;have ac:=zh (show n+1<S4.kN.length by have h:=QK.o;have:=HL.o;unfold bL at h;omega)
 clear Ja QG Ta Vy TL Kf d0;obtain⟨vi2,VN,Pt⟩:=CL.o.ready p1 E6.o;rw[<-HP.o] at VN Pt;have c2:=VN.cell;have Bw:=zh VN.row;have Bh:=zh VN.kept;have Bj:=zh Pt;have AG:(bC S4.kN p1).length+1<=1000000000:=(by have h0:=HB.o p1;have h:=QK.o;unfold bL at h;have h3:=h.2.2.1.2.2.2 p1;have h4:=h.2.2.2.1.2.2.2 p1;have h5:=h.2.2.2.2.2.2.2 p1;omega);clear VN Pt
 go_upto_region 37 with (at_builtin;refine dI rfl iQ rfl (by exact (Bw.o.alloc _)) [aK b1] AG ?_;intro va2 wa2 PC Po Ax;obtain⟨ga2,ca2,rfl⟩:=bV PC;obtain⟨ka2,kb2,kc2⟩:=Bh.o _ _ Po)
 obtain⟨tg2,CV⟩:=Bj.o [(n+1)] (λj hj=>by rw[zMs] at hj;subst hj;exact ac.o) (.cells #[aK b1] 141) wa2 _ (by rw[show ([(n+1)].map λj=>aK (XN.getD j 0))=[aK b1] from congrArg (λz=>[aK z]) pf.o.symm];exact PC) Po Ax;have yb:=zh CV;clear CV PC Po Ax ka2 kb2 kc2 c2 AG;generalize wa2.setCell ⟨ap,0,none⟩ (.slice (some ⟨ga2,0,none⟩) ((bC S4.kN p1).length+1) ca2)=wn2 at yb ⊢;have ey:=yb.o;rw[<-HS.o.2.1] at ey;have IE:=zh ey;clear ey;cases o with
 | true=>
  have Hl:=(IE.o.upd.keep st Hq.o.2.2 (.inl Hq.o.2.1)).trans Hq.o.1;have d2:wn2.cell? ⟨st,2,none⟩=some (.bool true):=by have h0:=aB _ _ 2 _ _ _ Hl;simpa using h0
  have d1:wn2.cell? ⟨st,1,none⟩=some (.int .i64 m):=by have h0:=aB _ _ 1 _ _ _ Hl;simpa using h0
  clear Hl;have h6:=HS.o.2.2.1;rw[zP rfl] at h6;have Na:=IE;rw[<-h6] at Na;have H6:=zh h6;clear h6;by_cases hm:m=0
  . have HM:=zh hm
    obtain⟨vi3,VO,Pu⟩:=Na.o.ready n (by have h:=QK.o;have:=HL.o;unfold bL at h;omega);rw[<-Be.o] at VO Pu;have c3:=VO.cell;have j0:=zh VO.row;have Bi:=zh VO.kept;have Bk:=zh Pu;have AH:(bC S6.kN n).length+1<=1000000000:=(by have h0:=HB.o n;have h:=QK.o;unfold bL at h;have h5:=h.2.2.2.2.2.2.2 n;omega);clear VO Pu
    go_wp2_with (at_builtin;refine dI rfl iQ rfl (by exact (j0.o.alloc _)) [aK b1] AH ?_;intro va3 wa3 PD Pp Ay;obtain⟨ga3,ca3,rfl⟩:=bV PD;obtain⟨ka3,kb3,kc3⟩:=Bi.o _ _ Pp)
    obtain⟨tg3,Fz⟩:=Bk.o [(n+1)] (λj hj=>by rw[zMs] at hj;subst hj;exact (by have h:=QK.o;have:=HL.o;unfold bL at h;omega)) (.cells #[aK b1] 141) wa3 _ (by rw[show ([(n+1)].map λj=>aK (XN.getD j 0))=[aK b1] from congrArg (λz=>[aK z]) pf.o.symm];exact PD) Pp Ay;have V1:=zh Fz;clear Fz PD Pp Ay ka3 kb3 kc3 c3 AH;generalize wa3.setCell ⟨a1,0,none⟩ (.slice (some ⟨ga3,0,none⟩) ((bC S6.kN n).length+1) ca3)=wn3 at V1 ⊢;go_ret;have X8:=HS.o.2.2.2;rw[zP HM.o] at X8
    exact zaP (s':=s') (b:=b1) (X8▸V1.o) Aj.o PL.o (by rw[<-X8];show S6.cL.length=S4.cL.length;rw[H6.o,HS.o.2.1];rfl) (by rw[HS.o.1];show S2.cL.length=_;rw[YJ.o.1]) (by have h:=QK.o;have:=HL.o;unfold bL at h;omega) pf.o
  . have HM:=zh hm
    go_wp2_with (fail);go_ret;have X8:=HS.o.2.2.2;rw[zN HM.o] at X8;exact zaP (s':=s') (b:=b1) (X8▸Na.o) Aj.o PL.o (by rw[<-X8];show S6.cL.length=S4.cL.length;rw[H6.o,HS.o.2.1];rfl) (by rw[HS.o.1];show S2.cL.length=_;rw[YJ.o.1]) (by have h:=QK.o;have:=HL.o;unfold bL at h;omega) pf.o
 | false=>
  have Hl:=(IE.o.upd.keep st Hq.o.2.2 (.inl Hq.o.2.1)).trans Hq.o.1;have d2:wn2.cell? ⟨st,2,none⟩=some (.bool false):=by have h0:=aB _ _ 2 _ _ _ Hl;simpa using h0
  have d1:wn2.cell? ⟨st,1,none⟩=some (.int .i64 m):=by have h0:=aB _ _ 1 _ _ _ Hl;simpa using h0
  clear Hl;obtain⟨vi4,Ca,De⟩:=IE.o.ready p1 (by have:=E6.o;have h:=QK.o;unfold bL at h;omega);rw[<-HP.o] at Ca De;have c4:=Ca.cell;have mj:=zh Ca.row;have LP:=zh Ca.kept;have LS:=zh De;have FZ:(bC S5.kN p1).length+1<=1000000000:=(by have h0:=HB.o p1;have h:=QK.o;unfold bL at h;have h4:=h.2.2.2.1.2.2.2 p1;have h5:=h.2.2.2.2.2.2.2 p1;omega);clear Ca De
  go_upto_region 39 with (at_builtin;refine dI rfl iQ rfl (by exact (mj.o.alloc _)) [aK a1] FZ ?_;intro va4 wa4 Du dw FS;obtain⟨ga4,ca4,rfl⟩:=bV Du;obtain⟨ka4,kb4,kc4⟩:=LP.o _ _ dw)
  obtain⟨tg4,R8⟩:=LS.o [n] (λj hj=>by rw[zMs] at hj;subst hj;exact (by have h:=QK.o;have:=HL.o;unfold bL at h;omega)) (.cells #[aK a1] 141) wa4 _ (by rw[show ([n].map λj=>aK (XN.getD j 0))=[aK a1] from congrArg (λz=>[aK z]) Be.o.symm];exact Du) dw FS;have EW:=zh R8;clear R8 Du dw FS ka4 kb4 kc4 c4 FZ;generalize wa4.setCell ⟨ap,0,none⟩ (.slice (some ⟨ga4,0,none⟩) ((bC S5.kN p1).length+1) ca4)=wn4 at EW ⊢;have Nt:=EW.o;have h6:=HS.o.2.2.1
  rw[zN (by decide)] at h6;rw[<-h6] at Nt;have PP:=zh Nt;have H6:=zh h6;clear h6 Nt d2 d1;have Hl:=(PP.o.upd.keep st Hq.o.2.2 (.inl Hq.o.2.1)).trans Hq.o.1;have d2:wn4.cell? ⟨st,2,none⟩=some (.bool false):=by have h0:=aB _ _ 2 _ _ _ Hl;simpa using h0
  have d1:wn4.cell? ⟨st,1,none⟩=some (.int .i64 m):=by have h0:=aB _ _ 1 _ _ _ Hl;simpa using h0
  clear Hl;by_cases hm:m=0
  . have HM:=zh hm
    obtain⟨vi5,Cb,Df⟩:=PP.o.ready n (by have h:=QK.o;have:=HL.o;unfold bL at h;omega);rw[<-Be.o] at Cb Df;have c5:=Cb.cell;have Ug:=zh Cb.row;have LQ:=zh Cb.kept;have LT:=zh Df;have F2:(bC S6.kN n).length+1<=1000000000:=(by have h0:=HB.o n;have h:=QK.o;unfold bL at h;have h5:=h.2.2.2.2.2.2.2 n;omega);clear Cb Df
    go_wp2_with (at_builtin;refine dI rfl iQ rfl (by exact (Ug.o.alloc _)) [aK b1] F2 ?_;intro va5 wa5 Dv dx FT;obtain⟨ga5,ca5,rfl⟩:=bV Dv;obtain⟨ka5,kb5,kc5⟩:=LQ.o _ _ dx)
    obtain⟨tg5,ep⟩:=LT.o [(n+1)] (λj hj=>by rw[zMs] at hj;subst hj;exact (by have h:=QK.o;have:=HL.o;unfold bL at h;omega)) (.cells #[aK b1] 141) wa5 _ (by rw[show ([(n+1)].map λj=>aK (XN.getD j 0))=[aK b1] from congrArg (λz=>[aK z]) pf.o.symm];exact Dv) dx FT;have CL:=zh ep;clear ep Dv dx FT ka5 kb5 kc5 c5 F2;generalize wa5.setCell ⟨a1,0,none⟩ (.slice (some ⟨ga5,0,none⟩) ((bC S6.kN n).length+1) ca5)=wn5 at CL ⊢;go_ret;have X8:=HS.o.2.2.2;rw[zP HM.o] at X8
    exact zaP (s':=s') (b:=b1) (X8▸CL.o) Aj.o PL.o (by rw[<-X8];show S6.cL.length=S4.cL.length;rw[H6.o,HS.o.2.1];rfl) (by rw[HS.o.1];show S2.cL.length=_;rw[YJ.o.1]) (by have h:=QK.o;have:=HL.o;unfold bL at h;omega) pf.o
  have HM:=zh hm
  go_wp2_with (fail);go_ret;have X8:=HS.o.2.2.2;rw[zN HM.o] at X8;exact zaP (s':=s') (b:=b1) (X8▸PP.o) Aj.o PL.o (by rw[<-X8];show S6.cL.length=S4.cL.length;rw[H6.o,HS.o.2.1];rfl) (by rw[HS.o.1];show S2.cL.length=_;rw[YJ.o.1]) (by have h:=QK.o;have:=HL.o;unfold bL at h;omega) pf.o
theorem fF.drew (h:fF tag bl bm w s rU fO Hc qc wr):fF tag bl bm w s rU fO Hc qc wr.drew:=by
 obtain⟨vs,vc,vf,vr,vb,qw,Qk,hK,hM⟩:=h.lay;have hb:=(zBr wr.heap.size wr).drew;have hk:=oF.below (tag:=qc) hb;exact⟨⟨vs,vc,vf,vr,vb,qw,Qk,hK.below hb,by have:=hM.apart (ext:=[]) hk;rwa [List.append_nil] at this⟩,h.upd.trans (dL.of_k hk)⟩
theorem zfC (ta tb:aJ) (VZ:LayC ta) (ihb:LayC tb):LayC (.either ta tb):=by
 intro i p s s' w tag bl bm Hc rU fO v hL Qz Hz Yj hT hi Hu Qo;rw[eD] at Hu;simp only[aX] at hT;obtain⟨ua,ub,rfl,DJ,tC⟩:=hT;obtain⟨xa,rfl,_⟩:=iS ta ua _ w DJ;obtain⟨xb,rfl,_⟩:=iS tb ub _ w tC;obtain⟨ai,Yh⟩:=zE (Hc.getD i 0);rw[<-Yh];have KS:=λv=>xD v;have Uq:=λv=>xE v;have PY:=λv=>xF v;have N0:fF tag bl bm w s rU fO Hc tag w:=⟨hL,dL.refl _ _⟩;have Hg:=N0.len
 have N1:=N0.alloc0 (.cells #[.iface (eP ta) xa,.iface (eP tb) xb] 204);obtain⟨Qd,N2,Yv⟩:=N1.push2;obtain⟨xe,N3,VX⟩:=N2.push2;obtain⟨YH,N4,N6⟩:=N3.push2;obtain⟨n,hn⟩:=zE (s.kN.length);obtain⟨st,Hl⟩:=zE (w.heap.size);obtain⟨S2,QD⟩:=zE (((s.push ⟨[],0,false⟩).push ⟨[],0,false⟩).push ⟨[],0,false⟩)
 obtain⟨qd,ql⟩:=zE (Hc++[(w.alloc (.cells #[.iface (eP ta) xa,.iface (eP tb) xb] 204)).heap.size]++[((w.alloc (.cells #[.iface (eP ta) xa,.iface (eP tb) xb] 204)).alloc (.cells #[.slice none 0 0,.int .i64 0,.bool false,.bool false] 143)).heap.size]++[(((w.alloc (.cells #[.iface (eP ta) xa,.iface (eP tb) xb] 204)).alloc (.cells #[.slice none 0 0,.int .i64 0,.bool false,.bool false] 143)).alloc (.cells #[.slice none 0 0,.int .i64 0,.bool false,.bool false] 143)).heap.size])
 obtain⟨w3,YG⟩:=zE ((((w.alloc (.cells #[.iface (eP ta) xa,.iface (eP tb) xb] 204)).alloc (.cells #[.slice none 0 0,.int .i64 0,.bool false,.bool false] 143)).alloc (.cells #[.slice none 0 0,.int .i64 0,.bool false,.bool false] 143)).alloc (.cells #[.slice none 0 0,.int .i64 0,.bool false,.bool false] 143));rw[<-ql,<-YG,<-QD] at N4;have M0:fF YH bl bm w3 S2 rU fO qd YH w3:=⟨N4.lay,dL.refl _ _⟩;have U3:=N4.upd;have Vw:S2.kN.length=n+3:=by rw[QD,hn];simp[bA.push]
 have P7:=M0.len;have sto:w3.heap[st]?=some (.cells #[.iface (eP ta) xa,.iface (eP tb) xb] 204 (0,0)):=by
  rw[YG,Hl,aN,zN (by simp;omega),aN,zN (by simp;omega),aN,zN (by simp),aN,zP rfl]
 have stt:YH st=0:=by
  rw[N6 st (by simp[Hl];omega),VX st (by simp[Hl];omega),Yv st (by simp[Hl]),Hl];simp[dB]
 have stl:st<w3.heap.size:=aA sto;have kA:st+1=qd.getD n 0:=by
  rw[ql,bF (by simp[Hg,hn]),bF (by simp[Hg,hn]),hn,<-Hg,cG,Hl];simp
 have kB:st+1+1=qd.getD (n+1) 0:=by
  rw[ql,bF (by simp[Hg,hn]),show n+1=(Hc++[(w.alloc (.cells #[.iface (eP ta) xa,.iface (eP tb) xb] 204)).heap.size]).length by simp[Hg,hn],cG,Hl];simp
 have kC:st+1+1+1=qd.getD (n+2) 0:=by
  rw[ql,show n+2=(Hc++[(w.alloc (.cells #[.iface (eP ta) xa,.iface (eP tb) xb] 204)).heap.size]++[((w.alloc (.cells #[.iface (eP ta) xa,.iface (eP tb) xb] 204)).alloc (.cells #[.slice none 0 0,.int .i64 0,.bool false,.bool false] 143)).heap.size]).length by simp[Hg,hn],cG,Hl];simp
 have aI:ai=qd.getD i 0:=by
  rw[ql,bF (by simp[Hg];omega),bF (by simp[Hg];omega),bF (by rw[Hg];exact hi)];exact Yh
 rw[<-hn,<-QD] at Hu;obtain⟨S3,X2⟩:=zE (S2.link i [n,n+1]);have L3:=bL.link S2 i [n,n+1];rw[<-X2] at Hu L3;cases hx:eD ta n S3 with
 | none=>rw[hx] at Hu;cases Hu
 | some pq=>
 obtain⟨p1,S4⟩:=pq;rw[hx] at Hu;simp only at Hu;cases hy:eD tb (n+1) S4 with
 | none=>rw[hy] at Hu;cases Hu
 | some pq=>
 obtain⟨q1,S5⟩:=pq;rw[hy] at Hu;simp only[Option.some.injEq,Prod.mk.injEq] at Hu;obtain⟨rfl,X8⟩:=Hu;have L4:=fY _ _ _ _ _ hx;have L5:=fY _ _ _ _ _ hy;obtain⟨S6,PX⟩:=zE (S5.link p1 [n+2]);have L6:=bL.link S5 p1 [n+2];rw[<-PX] at X8 L6;have L7:bL S6 s':=by rw[<-X8];exact bL.link _ _ _
 have BH:=zh (aX.upd U3 DJ);have my:=zh (aX.upd U3 tC);have tP:=zh M0;have Aj:=zh U3;have Hq:=zh (zAi sto (zAi stt stl));have J6:=zh aI;have yn:i<S2.kN.length:=by rw[Vw];omega
 have HL:=zh (zAi yn (zAi (show n<S2.kN.length by omega) (zAi (show n+1<S2.kN.length by omega) (show n+2<S2.kN.length by omega))));have QK:=zh (zAi L3 (zAi L4 (zAi L5 (zAi L6 L7))));have HS:=zh (zAi X2 (zAi PX X8));have HX:=zh hx;have HY:=zh hy;have HB:=zh Qo;have HN:=zh (zAi Qz (zAi Hz Yj));have YJ:=zh (show S2.cL=s.cL/\S2.bE=s.bE by rw[QD];exact⟨rfl,rfl⟩)
 have Ba:=zh (show ∃ ext,qd=Hc++ext from⟨_,by rw[ql,List.append_assoc,List.append_assoc]⟩);obtain⟨a1,xz⟩:∃ y,y=st+1:=⟨_,rfl⟩;obtain⟨b1,x5⟩:∃ y,y=st+1+1:=⟨_,rfl⟩;obtain⟨d1,Te⟩:∃ y,y=st+1+1+1:=⟨_,rfl⟩;have tN:=zh (show a1=qd.getD n 0 by rw[xz,kA]);have nw:=zh (show b1=qd.getD (n+1) 0 by rw[x5,kB]);have Wk:=zh (show d1=qd.getD (n+2) 0 by rw[Te,kC]);have xk:=zh (zAi YG (zAi Hl (zAi xz (zAi x5 Te))))
 clear YG Hl xz x5 Te kA kB kC M0 U3 sto stt stl aI Yh yn L3 L4 L5 L6 L7 X2 PX X8 hx hy Qo Qz Hz Yj N0 N1 N2 N3 N4 Yv VX N6 P7 DJ tC QD Vw ql Hg hn hL;go_enter Tryz.func57,Tryz.ntmps57;go_upto_region 24 with (fail)
 rw[<-xk.o.1,<-xk.o.2.1,<-xk.o.2.2.1,<-show b1=a1+1 by rw[xk.o.2.2.2.1,xk.o.2.2.1],<-show d1=b1+1 by rw[xk.o.2.2.2.2,xk.o.2.2.2.1]];clear KS Uq PY;obtain⟨vi1,Q9,Y9⟩:=tP.o.ready i HL.o.1;rw[<-J6.o] at Q9 Y9;have c1:=Q9.cell;have p7:=zh Q9.row;have pg:=zh Q9.kept;have ph:=zh Y9
 have VD:(bC S2.kN i).length+2<=1000000000:=(by have h0:=HB.o i;have h:=QK.o;unfold bL at h;have h1:=h.1.2.2.2 i;have h2:=h.2.1.2.2.2 i;have h3:=h.2.2.1.2.2.2 i;have h4:=h.2.2.2.1.2.2.2 i;have h5:=h.2.2.2.2.2.2.2 i;omega);clear Q9 Y9
 go_upto_region 25 with (at_builtin;refine bK _ rfl _ _ rfl iQ _ _ _ rfl (by exact (p7.o.alloc _)) ⟨_,0,none⟩ 2 2 [aK a1,aK b1] rfl rfl (cM _ #[aK a1,aK b1] _ _ (by simp)) (by simp[Value.oneCell']) (by decide) VD (by decide) ?_;intro va1 wa1 Xb x9 VB;obtain⟨ga1,ca1,rfl⟩:=bV Xb;obtain⟨ka1,kb1,kc1⟩:=pg.o _ _ x9)
 obtain⟨J5,Q5⟩:=ph.o [n,n+1] (λj hj=>by simp only[List.mem_cons,List.not_mem_nil,or_false] at hj;have:=HL.o;omega) (.cells #[aK a1,aK b1] 141) wa1 _ (by rw[show ([n,n+1].map λj=>aK (qd.getD j 0))=[aK a1,aK b1] from by rw[tN.o,nw.o];rfl];exact Xb) x9 VB;have QH:=zh Q5;clear Q5 Xb x9 VB ka1 kb1 kc1 c1 VD;generalize wa1.setCell ⟨ai,0,none⟩ (.slice (some ⟨ga1,0,none⟩) ((bC S2.kN i).length+1+1) ca1)=jo at QH ⊢;have Q5:=QH.o.drew;rw[<-HS.o.1] at Q5
 have qx:=(Q5.upd.keep st Hq.o.2.2 (.inl Hq.o.2.1)).trans Hq.o.1;have d0:jo.cell? ⟨st,0,none⟩=some (.iface (eP ta) xa):=by have h0:=aB _ _ 0 _ _ _ qx;simpa using h0
 have d1':jo.cell? ⟨st,1,none⟩=some (.iface (eP tb) xb):=by have h0:=aB _ _ 1 _ _ _ qx;simpa using h0
 have Hh:=VZ n p1 S3 S4 jo.drew J5 bl bm qd rU fO _ Q5.lay (by have h:=QK.o.1;unfold bL at h;have:=HN.o;have:=YJ.o;rw[HS.o.1];simp only[bA.link];rw[this.1];omega)
  (by have:=HN.o;have:=YJ.o;rw[HS.o.1];simp only[bA.link];rw[this.1,this.2];omega) (by have:=HN.o;have:=YJ.o;rw[HS.o.1];simp only[bA.link];rw[this.1];omega)
  (aX.upd Q5.upd BH.o) (by have h:=QK.o.1;have:=HL.o;unfold bL at h;omega) HX.o
  (λk=>by have h0:=HB.o k;have h:=QK.o;unfold bL at h;have h3:=h.2.2.1.2.2.2 k;have h4:=h.2.2.2.1.2.2.2 k;have h5:=h.2.2.2.2.2.2.2 k;omega)
 have QG:=tP.o.len;rw[<-tN.o] at Hh;have jq:=zh (show S3.cL.length=s.cL.length/\S3.bE.length=s.bE.length by rw[HS.o.1];exact⟨congrArg List.length YJ.o.1,congrArg List.length YJ.o.2⟩);have VF:∀ (w5:World) (QQ:Nat->Nat) (YT:List Nat),gZ w5 QQ bl bm (qd++YT) S4 (rU++List.replicate (S4.cL.length-S3.cL.length) (-1)) fO->dL J5 QQ jo.drew w5->
  Calls Tryz.prog 57 #[.pointer (some ⟨bm,0,none⟩),.iface (eP tb) xb,aK b1] w5 (LayO QQ bl bm (qd++YT) S4.cL.length (rU++List.replicate (S4.cL.length-S3.cL.length) (-1)) fO q1 S5 w5):=by
  intro w5 QQ YT Ta Vy;have h:=ihb (n+1) q1 S4 S5 w5 QQ bl bm (qd++YT) (rU++List.replicate (S4.cL.length-S3.cL.length) (-1)) fO _ Ta
   (by have h:=QK.o.2.1;unfold bL at h;have:=HN.o;have:=jq.o;simp only[zLn,List.length_replicate];omega)
   (by have h:=QK.o.2.1;unfold bL at h;have:=HN.o;have:=jq.o;omega) (by have h:=QK.o.2.1;unfold bL at h;have:=HN.o;have:=jq.o;omega)
   (aX.upd (Q5.upd.trans Vy) my.o) (by have h:=QK.o;have:=HL.o;unfold bL at h;omega) HY.o
   (λk=>by have h0:=HB.o k;have h:=QK.o;unfold bL at h;have h4:=h.2.2.2.1.2.2.2 k;have h5:=h.2.2.2.2.2.2.2 k;omega)
  rw[bF (by rw[QG];exact HL.o.2.2.1),<-nw.o] at h;exact h
 have Tq:∀ (w5:World) (QQ:Nat->Nat),dL J5 QQ jo.drew w5->w5.cell? ⟨st,0,none⟩=some (.iface (eP ta) xa)/\w5.cell? ⟨st,1,none⟩=some (.iface (eP tb) xb)/\st<w5.heap.size:=by
  intro w5 QQ Vy;have h:=((Q5.upd.trans Vy).keep st Hq.o.2.2 (.inl Hq.o.2.1)).trans Hq.o.1;have h0:=aB _ _ 0 _ _ _ h;have h1:=aB _ _ 1 _ _ _ h;exact⟨by simpa using h0,by simpa using h1,aA h⟩
 have qi:=zh Hh;have XF:=zh VF;have Ui:=zh Tq;have V1:=zh Q5;clear Q5 qx Hh VF Tq QG;go_region_held3 (λw'=>w'.cell? ⟨st,0,none⟩=some (.iface (eP ta) xa)/\w'.cell? ⟨st,1,none⟩=some (.iface (eP tb) xb)) (go_keep)
  (first|(go_at_call 57;refine (XF.o _ _ _ VV.o tX.o).mono ?_;rintro e w6 ⟨YY,ext6,rfl,MF,PA,CY⟩;obtain⟨Yy,Vz⟩:=zE (qd++YT++ext6);obtain⟨aq,KT⟩:=zE (Yy.getD q1 0);rw[<-Vz] at MF;rw[<-Vz,<-KT];have DY:=zh KT;have TT:=zh Vz;have Rh:=zh MF;have Mc:=zh CY;have Ws:=zh PA;clear MF CY PA KT Vz;obtain⟨y0,y1,y2⟩:=Ui.o _ _ (tX.o.trans Mc.o))
         | (go_at_call 57;refine qi.o.mono ?_;rintro e w5 ⟨QQ,YT,rfl,Ta,TL,Vy⟩;obtain⟨ap,Ja⟩:=zE ((qd++YT).getD p1 0);rw[<-Ja];have Vj:=zh Ja;have VV:=zh Ta;have tX:=zh Vy;have E6:=zh TL;clear Ta Vy TL Ja;obtain⟨z0,z1,z2⟩:=Ui.o _ _ tX.o))
 have QG:=tP.o.len;have ep:fF YH bl bm w3 S4 (rU++List.replicate (S4.cL.length-S3.cL.length) (-1)) fO (qd++YT) QQ w5:=⟨VV.o,V1.o.upd.trans tX.o⟩;have A4:=ep.len;have ey:fF YH bl bm w3 S5 (rU++List.replicate (S5.cL.length-S3.cL.length) (-1)) fO Yy YY w6:=⟨by
  have h:=Rh.o;rw[zcn rU _ _ _ QK.o.2.1.2.1 QK.o.2.2.1.2.1] at h;exact h,ep.upd.trans Mc.o⟩
 have MH:=ey.alloc0 (.cells #[aK ap,aK aq] 141);have RA:=zh MH.upd;have Jd:(w6.alloc (.cells #[aK ap,aK aq] 141)).heap[w6.heap.size]?=some (.cells #[aK ap,aK aq] 141 (0,0)):=by rw[aN,zP rfl]
 have DG:dB YY w6.heap.size 0 w6.heap.size=0:=by simp[dB]
 have Na:=zh (show fF (dB YY w6.heap.size 0) bl bm (w6.alloc (.cells #[aK ap,aK aq] 141)) S5 (rU++List.replicate (S5.cL.length-S3.cL.length) (-1)) fO Yy (dB YY w6.heap.size 0) (w6.alloc (.cells #[aK ap,aK aq] 141)) from⟨MH.lay,dL.refl _ _⟩);have Lx:=zh (show ap=Yy.getD p1 0 by rw[TT.o,bF (by rw[A4];exact E6.o)];exact Vj.o);have Bg:=zh (show d1=Yy.getD (n+2) 0 by rw[TT.o,List.append_assoc,bF (by rw[QG];exact HL.o.2.2.2)];exact Wk.o)
 have EL:=zh (show ∃ ext,Yy=Hc++ext by obtain⟨e,he⟩:=Ba.o;exact⟨e++YT++ext6,by rw[TT.o,he];simp only[List.append_assoc]⟩);clear QG ep A4 ey MH VV tX Rh Mc y0 y1 y2 z0 z1 z2 d0 d1';obtain⟨g6,kv⟩:=zE (w6.heap.size);rw[<-kv] at Jd DG Na RA ⊢;clear kv;generalize w6.alloc (.cells #[aK ap,aK aq] 141)=w7 at*;generalize dB YY g6 0=PI at*;have b0:w7.cell? ⟨g6,0,none⟩=some (aK ap):=by have h0:=aB _ _ 0 _ _ _ Jd;simpa using h0
 have lg6:g6<w7.heap.size:=aA Jd;have EI:=zh (zAi Jd DG);clear Jd DG;go_wp2_with (fail);refine wp_loop_rounds 3 ?_;rw[rounds_succ];go_upto_region 28 with (fail)
 obtain⟨vi2,VN,Pt⟩:=Na.o.ready p1 (by have:=E6.o;have h:=QK.o;unfold bL at h;omega);rw[<-Lx.o] at VN Pt;have c2:=VN.cell;have Bw:=zh VN.row;have Bh:=zh VN.kept;have Bj:=zh Pt;have AG:(bC S5.kN p1).length+1<=1000000000:=(by have h0:=HB.o p1;have h:=QK.o;unfold bL at h;have h4:=h.2.2.2.1.2.2.2 p1;have h5:=h.2.2.2.2.2.2.2 p1;omega);clear VN Pt
 go_wp2_with (at_builtin;refine dI rfl iQ rfl (by exact (Bw.o.alloc _)) [aK d1] AG ?_;intro va2 wa2 PC Po Ax;obtain⟨ga2,ca2,rfl⟩:=bV PC;obtain⟨ka2,kb2,kc2⟩:=Bh.o _ _ Po)
 obtain⟨tg2,CV⟩:=Bj.o [(n+2)] (λj hj=>by rw[zMs] at hj;subst hj;exact (by have h:=QK.o;have:=HL.o;unfold bL at h;omega)) (.cells #[aK d1] 141) wa2 _ (by rw[show ([(n+2)].map λj=>aK (Yy.getD j 0))=[aK d1] from congrArg (λz=>[aK z]) Bg.o.symm];exact PC) Po Ax;have yb:=zh CV;clear CV PC Po Ax ka2 kb2 kc2 c2 AG;generalize wa2.setCell ⟨ap,0,none⟩ (.slice (some ⟨ga2,0,none⟩) ((bC S5.kN p1).length+1) ca2)=wn2 at yb ⊢;have Nt:=yb.o;rw[<-HS.o.2.1] at Nt
 have Jd:=(Nt.upd.keep g6 lg6 (.inl EI.o.2)).trans EI.o.1;have b3:wn2.cell? ⟨g6,1,none⟩=some (aK aq):=by have h0:=aB _ _ 1 _ _ _ Jd;simpa using h0
 have PP:=zh Nt;clear Nt Jd b0;rw[rounds_succ];go_upto_region 28 with (fail)
 obtain⟨vi3,VO,Pu⟩:=PP.o.ready q1 (by have:=Ws.o;have h:=QK.o;unfold bL at h;omega);rw[<-DY.o] at VO Pu;have c3:=VO.cell;have j0:=zh VO.row;have Bi:=zh VO.kept;have Bk:=zh Pu;have AH:(bC S6.kN q1).length+1<=1000000000:=(by have h0:=HB.o q1;have h:=QK.o;unfold bL at h;have h5:=h.2.2.2.2.2.2.2 q1;omega);clear VO Pu
 go_wp2_with (at_builtin;refine dI rfl iQ rfl (by exact (j0.o.alloc _)) [aK d1] AH ?_;intro va3 wa3 PD Pp Ay;obtain⟨ga3,ca3,rfl⟩:=bV PD;obtain⟨ka3,kb3,kc3⟩:=Bi.o _ _ Pp)
 obtain⟨tg3,Fz⟩:=Bk.o [(n+2)] (λj hj=>by rw[zMs] at hj;subst hj;exact (by have h:=QK.o;have:=HL.o;unfold bL at h;omega)) (.cells #[aK d1] 141) wa3 _ (by rw[show ([(n+2)].map λj=>aK (Yy.getD j 0))=[aK d1] from congrArg (λz=>[aK z]) Bg.o.symm];exact PD) Pp Ay;have V1:=zh Fz;clear Fz PD Pp Ay ka3 kb3 kc3 c3 AH;generalize wa3.setCell ⟨aq,0,none⟩ (.slice (some ⟨ga3,0,none⟩) ((bC S6.kN q1).length+1) ca3)=wn3 at V1 ⊢;rw[rounds_succ];go_wp2_with (fail);go_ret
 have R9:=V1.o;rw[HS.o.2.2] at R9;exact zaP (s':=s') (b:=d1) R9 (Aj.o.trans RA.o) EL.o (by rw[<-HS.o.2.2,HS.o.2.1];rfl) jq.o.1 (by have h:=QK.o;have:=HL.o;unfold bL at h;omega) Bg.o
theorem rO:∀ t:aJ,LayC t
 | .cL c=>lay_cls c
 | .row l=>lay_row l (λt _=>rO t)
 | .either a b=>zfC a b (rO a) (rO b)
 | .rep t m o=>lay_rep t m o (rO t)
