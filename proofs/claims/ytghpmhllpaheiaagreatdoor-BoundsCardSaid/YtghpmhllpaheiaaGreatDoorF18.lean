/- Part of a proof. No condition. -/
import Derived.Test.YtghpmhllpaheiaaGreatDoorF15
import Derived.Test.YtghpmhllpaheiaaGreatDoorF16
import Derived.Test.YtghpmhllpaheiaaGreatDoorF17
set_option linter.unusedVariables false
set_option linter.unusedSimpArgs false
namespace Go.Proofs.YtghpmhllpaheiaaGreatDoor
open Go.RowKit Go.Lib
variable {G:List bY} {s:bA}
def mS (s:bA):Prop:=(∀ k,(bC s.kN k).length<=1000000)/\s.kN.length<=1000000/\s.cL.length<=1000000
def eV (G:List bY) (f:Nat) (i:Nat):List Nat->gK->Option gK
 | [],L=>some L
 | b::r,L=>
  match uC G f b [] with
  | none=>none
  | some l=>eV G f i r {L with fO:=L.fO++[aO G l],rU:=L.rU++[if iR G l then (i:Int) else -1]}
def fX (f:Nat):List aJ->Nat->bA->gK->Option (bA×gK)
 | [],_,s,L=>some (s,L)
 | t::r,i,s,L=>
  match eD t s.kN.length (s.push ⟨[],0,false⟩) with
  | none=>none
  | some (e,s1)=>
   match uC (s1.fI e).kN f s.kN.length [] with
   | none=>none
   | some l=>
    match eV (s1.fI e).kN f i (s1.bE.drop s.bE.length) {L with cL:=s1.cL,fO:=L.fO.modify 0 (aW.or · (aO (s1.fI e).kN l))} with
    | none=>none
    | some L2=>fX f r (i+1) (s1.fI e) L2
def jF:bA:=⟨[],[[]],[0]⟩
def jG:gK:=⟨[[]],[-1],[(0,0)]⟩
theorem oZ (G:List bY) (e k:Nat):bC (G.modify e finK) k=bC G k:=by
 unfold bC;rw[List.getElem?_modify];cases G[k]?<;>simp;split<;>simp[finK]
theorem uO (G:List bY) (e k:Nat):aY (G.modify e finK) k=aY G k:=pT (f:=finK) (λ_=>rfl) e k
theorem zcS {e:Nat} (he:e<G.length) (k:Nat):dU (G.modify e finK) k=if k=e then true else dU G k:=by
 unfold dU;rw[List.getElem?_modify];by_cases h:e=k
 . subst h;rw[zLe he];simp[finK]
 rw[zN (Ne.symm h)];simp[h]
theorem bL.fI (s:bA) (e:Nat):bL s (s.fI e):=⟨by simp[bA.fI],zR _,rfl,λk=>by show _<=(bC (s.kN.modify e finK) k).length;rw[oZ];exact zR _⟩
theorem zai {f:Nat}:∀ (l:List aJ) (i:Nat) (s:bA) (L:gK) (s2:bA) (L2:gK),fX f l i s L=some (s2,L2)->bL s s2
 | [],i,s,L,s2,L2,h=>by rw[fX] at h;cases h;exact bL.refl _
 | t::r,i,s,L,s2,L2,h=>by
  rw[fX] at h;split at h
  . cases h
  rename_i e s1 h1
  split at h
  . cases h
  split at h
  . cases h
  exact (bL.push s _).trans ((fY _ _ _ _ _ h1).trans ((bL.fI _ _).trans (zai r _ _ _ _ _ h)))
theorem mS.of_later {s2:bA} (h:mS s2) (k:bL s s2):mS s:=⟨λi=>zT (k.2.2.2 i) (h.1 i),zT k.1 h.2.1,zT k.2.1 h.2.2⟩
def sR (s:bA):Prop:=∀ i,aY s.kN i<=64
theorem sR.push (h:sR s) (l:List Nat) (n:Nat) (b:Bool) (hn:n<=64):sR (s.push ⟨l,n,b⟩):=by
 intro i;show aY (s.kN++[⟨l,n,b⟩]) i<=64
 rcases zLg i s.kN.length with hi|hi
 . rw[za2 hi];exact h i
 unfold aY
 rw[zGr hi]
 rcases Nat.eq_zero_or_pos (i-s.kN.length) with e|e
 . rw[e];simpa using hn
 rw[zGn (by simp;omega)];simp
theorem sR.link (h:sR s) (i:Nat) (l:List Nat):sR (s.link i l):=λk=>by
 show aY (s.kN.modify i (nT l)) k<=64;rw[pT (f:=nT l) (λ_=>rfl)];exact h k
theorem sR.fI (h:sR s) (i:Nat):sR (s.fI i):=λk=>by
 show aY (s.kN.modify i finK) k<=64;rw[uO];exact h k
mutual
theorem mZ:∀ (t:aJ) (i p:Nat) (s s':bA),eD t i s=some (p,s')->sR s->sR s'
 | .cL c,i,p,s,s',h,hs=>by
  rw[eD] at h;split at h
  . cases h
  . rename_i kh
    cases h;exact ((hs.push [] 0 false (by omega)).push [] s.cL.length false (by omega)).link i [s.kN.length+1]
 | .row l,i,p,s,s',h,hs=>by
  rw[eD] at h;exact zbz l i p s s' h hs
 | .either a b,i,p,s,s',h,hs=>by
  rw[eD] at h;split at h
  . cases h
  . rename_i p1 s2 e1
    split at h
    . cases h
    . rename_i q s3 e2
      cases h;exact ((mZ b _ _ _ _ e2 (mZ a _ _ _ _ e1 ((((hs.push [] 0 false (by omega)).push [] 0 false (by omega)).push [] 0 false (by omega)).link i _))).link _ _).link _ _
 | .rep t m o,i,p,s,s',h,hs=>by
  rw[eD] at h;split at h
  . cases h
  rename_i p1 s2 e1
  cases h;have h0:=(mZ t _ _ _ _ e1 (((hs.push [] 0 false (by omega)).push [] 0 false (by omega)).link i _)).link p1 [s.kN.length+1];cases o<;>by_cases hm:m=0<;>simp only[hm,if_true,if_false,Bool.false_eq_true]
  . exact (h0.link _ _).link _ _
  . exact h0.link _ _
  . exact h0.link _ _
  exact h0
theorem zbz:∀ (l:List aJ) (i p:Nat) (s s':bA),mY l i s=some (p,s')->sR s->sR s'
 | [],i,p,s,s',h,hs=>by
  rw[mY] at h;cases h;exact hs
 | t::l,i,p,s,s',h,hs=>by
  rw[vH] at h;cases e:eD t i s with
  | none=>rw[e] at h;cases h
  | some x=>
   obtain⟨q,s2⟩:=x;rw[e] at h;exact zbz l _ _ _ _ h (mZ t _ _ _ _ e hs)
end
theorem zcj:∀ (n:Nat) (l:List Nat),l.Nodup->(∀ x∈l,x<n)->l.length<=n
 | 0,l,_,h=>by
  cases l with
  | nil=>exact zR _
  | cons a l=>exact absurd (h a (List.mem_cons_self ..)) (by omega)
 | n+1,l,hd,h=>by
  by_cases hm:n∈l
  . have h1:=zcj n (l.erase n) (hd.erase n) (λx hx=>by
     have h2:=h x (List.mem_of_mem_erase hx);have h3:x≠n:=λe=>by subst e;exact (List.Nodup.not_mem_erase hd) hx
     omega)
    have h2:=List.length_erase_of_mem hm;have h3:=List.length_pos_of_mem hm;omega
  have:=zcj n l hd (λx hx=>by
   have h2:=h x hx;have h3:x≠n:=λe=>hm (by rw[<-e];exact hx);omega)
  omega
theorem dfs_nodup :∀ (f:Nat),(∀ k l l2,uC G f k l=some l2->l.Nodup->l2.Nodup)/\(∀ r l l2,mP G f r l=some l2->l.Nodup->l2.Nodup):=by
 intro f
 induction f with
 | zero=>exact⟨λk l l2 h=>(by rw[uC] at h;cases h),λr l l2 h=>(by rw[mP] at h;cases h)⟩
 | succ f ih=>
  refine⟨λk l l2 h hl=> ?_,λr l l2 h hl=> ?_⟩
  . rw[uC] at h
    split at h
    . cases h;exact hl
    rename_i hc
    refine ih.2 _ _ _ h ?_;rw[List.nodup_append];refine⟨hl,by simp,λa ha b hb=> ?_⟩;rw[zMs] at hb;subst hb;intro e;subst e;exact hc (by simpa using ha)
  cases r with
  | nil=>rw[mP] at h;cases h;exact hl
  | cons k r=>
   rw[mP] at h;split at h
   . cases h
   rename_i s2 e
   exact ih.2 _ _ _ h (ih.1 _ _ _ e hl)
theorem zcO {f k:Nat} {l:List Nat} (Ey:∀ i j,i<G.length->j∈bC G i->j<G.length) (h:uC G f k []=some l) (hk:k<G.length):l.length<=G.length:=
 zcj _ _ ((dfs_nodup f).1 _ _ _ h List.nodup_nil) ((dfs_lt Ey f).1 _ _ _ h hk (λx hx=>by cases hx))
section
variable {w w':World} {tag Hd:Nat->Nat} {bl bm:Nat} {cL:List (List (Int×Int))} {rU:List Int} {fO:List aW} {Hc bE:List Nat} {vc vf vr vb:Value} {qw Qk:List Value}
theorem pZ.keep1 (h:pZ w tag bl bm cL rU fO Hc bE vc vf vr vb qw Qk) (hk:∀ b,b<w.heap.size->1<=tag b->tag b<=7->w'.heap[b]?=w.heap[b]?) (ht:∀ b,b<w.heap.size->Hd b=tag b):pZ w' Hd bl bm cL rU fO Hc bE vc vf vr vb qw Qk:=by
 have own:∀ {v:Value} {e:TypeId} {size n:Nat} {xs:List Value} {c:Nat},w.ownsRow 0 e size v n xs->(∀ g,v.ownBlock=some g->tag g=c)->1<=c->c<=7->w'.ownsRow 0 e size v n xs:=
  λhr PG h1 h7=>aU hr λg hg=>hk g (hr.lt g hg).2 (by rw[PG g hg];exact h1) (by rw[PG g hg];exact h7)
 have tg:∀ {v:Value} {e:TypeId} {size n:Nat} {xs:List Value} {c:Nat},w.ownsRow 0 e size v n xs->(∀ g,v.ownBlock=some g->tag g=c)->∀ g,v.ownBlock=some g->Hd g=c:=
  λhr PG g hg=>(ht g (hr.lt g hg).2).trans (PG g hg)
 refine⟨?_,?_,?_,?_,own h.rc h.t3 (by decide) (by decide),?_,own h.rr h.t4 (by decide) (by decide),own h.rf h.t6 (by decide) (by decide),own h.rb h.t5 (by decide) (by decide),h.bb,tg h.rc h.t3,tg h.rr h.t4,tg h.rb h.t5,tg h.rf h.t6⟩
 . exact (hk bl (aA h.hl) (by rw[h.tl];decide) (by rw[h.tl];decide)).trans h.hl
 . exact (hk bm (aA h.hm) (by rw[h.tm];decide) (by rw[h.tm];decide)).trans h.hm
 . exact (ht bl (aA h.hl)).trans h.tl
 . exact (ht bm (aA h.hm)).trans h.tm
 intro i c hc
 obtain⟨cv,h1,h2,h3⟩:=h.cc i c hc;exact⟨cv,h1,own h2 h3 (by decide) (by decide),tg h2 h3⟩
theorem pZ.addFollow (h:pZ w tag bl bm cL rU fO Hc bE vc vf vr vb qw Qk) (hu:jD tag Hd 6 bl w w') (v':Value) (x:aW) (hl:w'.heap[bl]?=some (.cells #[vc,v',vr] 132 (0,0)))
 (Hb:w'.ownsRow 0 147 2 v' (fO.length+1) (setCells fO++[.int .u64 x.1,.int .u64 x.2])) (ht:∀ g,v'.ownBlock=some g->Hd g=6):
 pZ w' Hd bl bm cL rU (fO++[x]) Hc bE vc v' vr vb qw Qk:=by
 have qo:bm≠bl:=λe=>by have:=h.tm;rw[e,h.tl] at this;cases this
 have b2:=hu.blk h.hm (by rw[h.tm];decide) qo;have r3:=hu.row h.rc h.t3 (by decide) (by rw[h.tl];decide);have r5:=hu.row h.rb h.t5 (by decide) (by rw[h.tl];decide);have r4:=hu.row h.rr h.t4 (by decide) (by rw[h.tl];decide);refine⟨hl,b2.1,(hu.tags bl (aA h.hl)).trans h.tl,b2.2.trans h.tm,r3.1,?_,r4.1,by simpa[setCells] using Hb,r5.1,h.bb,r3.2,r4.2,r5.2,ht⟩;intro i y hy;obtain⟨cv0,h1,h2,h3⟩:=h.cc i y hy;have r:=hu.row h2 h3 (by decide) (by rw[h.tl];decide);exact⟨cv0,h1,r.1,r.2⟩
theorem pZ.pushFollow (h:pZ w tag bl bm cL rU fO Hc bE vc vf vr vb qw Qk) {w1:World} {V v':Value} {x:aW} (ob:Obj) (hV:vf=V)
 (Hb:w1.ownsRow 0 147 2 v' (fO.length+1) (setCells fO++[.int .u64 x.1,.int .u64 x.2])) (hg:(w.alloc ob).drew.grownBy w1 V.ownBlock) (Hz:v'.ownBlock=V.ownBlock\/v'.ownBlock=some (w.alloc ob).drew.heap.size):
 ∃ QF v1,jD tag QF 6 bl w (w1.setCell ⟨bl,1,none⟩ v')/\pZ (w1.setCell ⟨bl,1,none⟩ v') QF bl bm cL rU (fO++[x]) Hc bE vc v1 vr vb qw Qk:=by
 subst hV;obtain⟨QF,hA,Q1,TO,PG⟩:=lX (tag:=tag) (c:=6) (b:=bl) (off:=1) ob h.hl (by rw[h.tl];decide) (λg qn=>⟨(h.rf.lt g qn).2,h.t6 g qn⟩) Hb ⟨hg.os,hg.tape,hg.output,hg.size,hg.block⟩ Hz;exact⟨QF,v',hA,h.addFollow hA v' x Q1 TO PG⟩
theorem iN {v:Value} {e:TypeId} {size n:Nat} {xs:List Value} {b o:Nat} (u:Value) (hr:w.ownsRow 0 e size v n xs) (hv:v.ownBlock≠some b):(w.setCell ⟨b,o,none⟩ u).ownsRow 0 e size v n xs:=
 aU hr λg hg=>aG _ _ _ _ (λe2=>hv (by rw[hg,show g=b from e2]))
theorem pZ.setRule (h:pZ w tag bl bm cL rU fO Hc bE vc vf vr vb qw Qk) (g cap n:Nat) (hv:vr=.slice (some ⟨g,0,none⟩) rU.length cap) (x:Int):
 pZ (w.setCell ⟨g,n,none⟩ (.int .i64 x)) tag bl bm cL (rU.set n x) fO Hc bE vc vf vr vb qw Qk:=by
 have tg:tag g=4:=h.t4 g (by rw[hv];rfl);have ne:∀ {v:Value} {c:Nat},(∀ g,v.ownBlock=some g->tag g=c)->c≠4->v.ownBlock≠some g:=λht hc e=>by have:=ht g e;rw[tg] at this;exact hc this.symm
 have bne:∀ {b c:Nat},tag b=c->c≠4->b≠g:=λhb hc e=>by rw[e,tg] at hb;exact hc hb.symm
 refine⟨(aG _ _ _ _ (bne h.tl (by decide))).trans h.hl,(aG _ _ _ _ (bne h.tm (by decide))).trans h.hm,h.tl,h.tm,iN _ h.rc (ne h.t3 (by decide)),?_,?_,iN _ h.rf (ne h.t6 (by decide)),iN _ h.rb (ne h.t5 (by decide)),h.bb,h.t3,h.t4,h.t5,h.t6⟩
 . intro i c hc
   obtain⟨cv,h1,h2,h3⟩:=h.cc i c hc;exact⟨cv,h1,iN _ h2 (ne h3 (by decide)),h3⟩
 have hr:=h.rr
 rw[hv] at hr ⊢;have:=(hr.stored n (.int .i64 x)).1;rw[List.length_set,List.map_set];exact this
theorem sD (l:List aW) (i:Nat) (s:aW) (h:l[i]?=some s):(setCells l)[2*i]?=some (.int .u64 s.1)/\(setCells l)[2*i+1]?=some (.int .u64 s.2):=by
 induction l generalizing i with
 | nil=>cases h
 | cons a l ih=>
  cases i with
  | zero=>cases h;exact⟨rfl,rfl⟩
  | succ i=>
   have:=ih i h;have e:setCells (a::l)=.int .u64 a.1:: .int .u64 a.2::setCells l:=rfl;rw[e,show 2*(i+1)=2*i+1+1 by omega];simpa using this
theorem oK (l:List aW):(setCells l).length=l.length*2:=by
 induction l with
 | nil=>rfl
 | cons a l ih=>
  have e:setCells (a::l)=.int .u64 a.1:: .int .u64 a.2::setCells l:=rfl
  rw[e];simp[ih];omega
theorem pZ.setFirst (h:pZ w tag bl bm cL rU fO Hc bE vc vf vr vb qw Qk) (g cap:Nat) (hv:vf=.slice (some ⟨g,0,none⟩) fO.length cap) (s:aW) (r:List aW) (hf:fO=s::r) (x:aW):
 pZ ((w.setCell ⟨g,0,none⟩ (.int .u64 x.1)).setCell ⟨g,1,none⟩ (.int .u64 x.2)) tag bl bm cL rU (x::r) Hc bE vc vf vr vb qw Qk:=by
 have tg:tag g=6:=h.t6 g (by rw[hv];rfl);have ne:∀ {v:Value} {c:Nat},(∀ g,v.ownBlock=some g->tag g=c)->c≠6->v.ownBlock≠some g:=λht hc e=>by have:=ht g e;rw[tg] at this;exact hc this.symm
 have bne:∀ {b c:Nat},tag b=c->c≠6->b≠g:=λhb hc e=>by rw[e,tg] at hb;exact hc hb.symm
 refine⟨((aG _ _ _ _ (bne h.tl (by decide))).trans (aG _ _ _ _ (bne h.tl (by decide)))).trans h.hl,((aG _ _ _ _ (bne h.tm (by decide))).trans (aG _ _ _ _ (bne h.tm (by decide)))).trans h.hm,h.tl,h.tm,iN _ (iN _ h.rc (ne h.t3 (by decide))) (ne h.t3 (by decide)),?_,iN _ (iN _ h.rr (ne h.t4 (by decide))) (ne h.t4 (by decide)),?_,iN _ (iN _ h.rb (ne h.t5 (by decide))) (ne h.t5 (by decide)),h.bb,h.t3,h.t4,h.t5,h.t6⟩
 . intro i c hc
   obtain⟨cv,h1,h2,h3⟩:=h.cc i c hc;exact⟨cv,h1,iN _ (iN _ h2 (ne h3 (by decide))) (ne h3 (by decide)),h3⟩
 have hr:=h.rf
 rw[hv,hf] at hr;have h1:=((hr.stored 0 (.int .u64 x.1)).1.stored 1 (.int .u64 x.2)).1;rw[hv,hf];exact h1
end
theorem pH.fI {w:World} {tag:Nat->Nat} {Hc:List Nat} {vs:List Value} {seen:Nat->Bool} (h:pH w tag Hc vs G seen) (k:Nat) (hk:k<G.length):
 pH (w.setCell ⟨Hc.getD k 0,2,none⟩ (.bool true)) tag Hc vs (G.modify k finK) seen:=by
 have inj:∀ i j,i<G.length->j<G.length->Hc.getD i 0=Hc.getD j 0->i=j:=by
  intro i j hi hj e;have h1:=h.ta i hi;have h2:=h.ta j hj;rw[e,h2] at h1;omega
 have hl:(G.modify k finK).length=G.length:=by simp
 refine⟨by rw[hl];exact h.la,by rw[hl];exact h.lv,λi hi=> ?_,λi hi=> ?_,λi hi=>h.ta i (by rwa [hl] at hi),λi g hi=>h.tv i g (by rwa [hl] at hi),λi j hi hj=>by rw[hl] at hi ⊢;rw[oZ] at hj;exact h.wf i j hi hj⟩
 . rw[hl] at hi
   rw[uO,zcS hk];by_cases e:i=k
   . subst e
     rw[aC w _ 2 _ _ _ _ (h.cell i hi),zP rfl];rfl
   rw[aG _ _ _ _ (λe2=>e (inj i k hi hk e2)),zN e]
   exact h.cell i hi
 rw[hl] at hi
 rw[oZ];refine aU (h.row i hi) λg hg=>aG _ _ _ _ ?_;intro e;have h1:=h.tv i g hi hg;have h2:=h.ta k hk;rw[show g=Hc.getD k 0 from e,h2] at h1;omega
theorem oF.atKnot {w:World} {tag:Nat->Nat} {Hc:List Nat} {vs:List Value} {seen:Nat->Bool} (h:pH w tag Hc vs G seen) (k:Nat) (hk:k<G.length) (o:Nat) (v:Value):oF tag tag w (w.setCell ⟨Hc.getD k 0,o,none⟩ v):=
 ⟨rfl,rfl,rfl,by simp,λ_ _=>rfl,λb hb ht=>aG _ _ _ _ (λe=>by have:=h.ta k hk;rw[<-show b=Hc.getD k 0 from e] at this;omega)⟩
