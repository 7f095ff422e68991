/- Part of a proof. No condition. -/
import Derived.Test.YtghpmhllpaheiaaGreatDoorF46
import Derived.Test.YtghpmhllpaheiaaGreatDoorF47
set_option linter.unusedVariables false
set_option linter.unusedSimpArgs false
set_option maxRecDepth 100000
set_option maxHeartbeats 16000000
namespace Go.Proofs.YtghpmhllpaheiaaGreatDoor
open Go.RowKit Go.Lib
variable {n i:Nat} {v:Value} {sT:List ByteArray} {ts:List aJ} {M:Mk} {s:ByteArray} {L:gK} {sE:List aW} {rU:List Int} {gO:List (List Int)} {D:TD} {w w':World} {S:MS}
structure PlR (S:MS) (D:MD) (w:World):Prop where
 rR:w.ownsRow 0 299 1 S.vR D.rL.length (D.rL.map (·.1))
 rr:∀ p∈D.rL,w.ownsRow 0 304 2 p.1 p.2.length (eQ p.2)
 lR:cW w S.vL D.last
 fR:w.ownsRow 0 39 1 S.vF D.fL.length S.fv
 fli:∀ (i:Nat) (v:Value),S.fv[i]?=some v->cW w v (eX (D.fL.getD i []))/\∀ g,v.ownBlock=some g->S.vL.ownBlock≠some g
def PlB (B:Nat) (S:MS):Prop:=(∀ g,S.vR.ownBlock=some g->B<=g)/\(∀ g,S.vL.ownBlock=some g->B<=g)/\∀ g,S.vF.ownBlock=some g->B<=g
section
variable {B pb A:Nat} {N:List Nd} {nl lv:Value} {s:ByteArray} {y:Pr} {D:MD} {S:MS} {w w':World} {cs:Array Value}
theorem PlR.of_mk {mb:Nat} (h:lG B mb N nl D S w):PlR S D w/\PlB B S:=
 ⟨⟨h.rR,λp hp=>(h.rr p hp).1,h.lR,h.fR,λi v hv=>⟨(h.fli i v hv).1,λg hg e=>(h.fli i v hv).2 g hg (.inr (.inr (.inl e)))⟩⟩,λg hg=>h.low.2 g (.inr (.inl hg)),λg hg=>h.low.2 g (.inr (.inr (.inl hg))),λg hg=>h.low.2 g (.inr (.inr (.inr hg)))⟩
theorem PlR.below (h:PlR S D w) (hb:Below w.heap.size w w'):PlR S D w':=
 ⟨aZ h.rR hb,λp hp=>aZ (h.rr p hp) hb,h.lR.below hb,aZ h.fR hb,λi v hv=>⟨(h.fli i v hv).1.below hb,(h.fli i v hv).2⟩⟩
theorem PlR.other {t:TypeId} (h:PlR S D w) (hA:w.heap[A]?=some (.cells cs t (0,0))) (ht:t≠299/\t≠304/\t≠3/\t≠39) (hk:∀ g,g≠A->w'.heap[g]?=w.heap[g]?):PlR S D w':=
 ⟨bW h.rR hA ht.1.symm hk,λp hp=>bW (h.rr p hp) hA ht.2.1.symm hk,bW h.lR hA ht.2.2.1.symm hk,bW h.fR hA ht.2.2.2.symm hk,λi v hv=>⟨bW (h.fli i v hv).1 hA ht.2.2.1.symm hk,(h.fli i v hv).2⟩⟩
theorem pX {e f:TypeId} {m size size2:Nat} {u:Value} {xs ys:List Value} (h:w.ownsRow 0 e size u n xs) (k:w.ownsRow 0 f size2 v m ys) (he:e≠f):∀ g,u.ownBlock=some g->v.ownBlock≠some g:=λg hg e2=>by
 obtain⟨c1,h1⟩:=dK h hg;obtain⟨c2,h2⟩:=dK k e2;exact he (eE h1 h2)
theorem mk_begin (h:PlR S D w) (hB:PlB B S) (Fk:0<B/\B<=w.heap.size) (hn:w.ownsRow 0 301 5 lv N.length (fU N)) (hr:∀ d∈N,w.ownsRow 0 304 2 d.r d.rl.length (eQ d.rl)):
 lG B w.heap.size N lv {D with on:=false} S (w.alloc (.cells #[lv,S.vR,S.vL,S.vF,.bool false] 271)):=by
 have hb:=(zBr w.heap.size w).alloc (zR _) (.cells #[lv,S.vR,S.vL,S.vF,.bool false] 271);have key:∀ {e:TypeId} {size n:Nat} {u:Value} {xs:List Value},w.ownsRow 0 e size u n xs->e≠299->e≠39->(∀ g,u.ownBlock=some g->S.vL.ownBlock≠some g)->∀ g,u.ownBlock=some g->¬ xS w.heap.size S g:=λhu h1 h2 h3 g hg hm=>by
  rcases hm with rfl|e|e|e
  . exact Nat.lt_irrefl _ (dP hu _ hg)
  . exact pX hu h.rR h1 g hg e
  . exact h3 g hg e
  exact pX hu h.fR h2 g hg e
 have hl:=h.lR;unfold cW at hl
 refine⟨bR _ _ _ rfl,aZ hn hb,key hn (by decide) (by decide) (pX hn hl (by decide)),λd hd=>⟨aZ (hr d hd) hb,key (hr d hd) (by decide) (by decide) (pX (hr d hd) hl (by decide))⟩,aZ h.rR hb,λp hp=>⟨aZ (h.rr p hp) hb,key (h.rr p hp) (by decide) (by decide) (pX (h.rr p hp) hl (by decide))⟩,h.lR.below hb,aZ h.fR hb,λi v hv=>⟨(h.fli i v hv).1.below hb,key (h.fli i v hv).1 (by decide) (by decide) (h.fli i v hv).2⟩,⟨λe=>Nat.lt_irrefl _ (dP h.rR _ e),λe=>Nat.lt_irrefl _ (dP hl _ e),λe=>Nat.lt_irrefl _ (dP h.fR _ e)⟩,λg hg=>⟨pX h.rR hl (by decide) g hg,pX h.rR h.fR (by decide) g hg⟩,pX hl h.fR (by decide),Fk.1,λb hb=> ?_⟩
 rcases hb with rfl|e|e|e
 . exact Fk.2
 . exact hB.1 b e
 . exact hB.2.1 b e
 exact hB.2.2 b e
theorem PlR.setF (h:PlR S D w) {gF cap:Nat} {l:List Nat} (vq:S.vF=.slice (some ⟨gF,0,none⟩) D.fL.length cap) (hi:i<D.fL.length) (hl:cW w v (eX l)) (qo:∀ g,v.ownBlock=some g->S.vL.ownBlock≠some g):
 PlR {S with fv:=S.fv.set i v} {D with fL:=D.fL.set i l} (w.setCell ⟨gF,i,none⟩ v):=by
 have UD:∃ cs,w.heap[gF]?=some (.cells cs 39 (0,0)):=dK h.fR (by rw[vq];rfl);obtain⟨cs,YL⟩:=UD;have hk:∀ g,g≠gF->(w.setCell ⟨gF,i,none⟩ v).heap[g]?=w.heap[g]?:=λg hg=>aG _ _ _ _ hg;have Q3:S.fv.length=D.fL.length:=by have:=h.fR.1;omega
 have Yc:∀ {u:Value} {l:List Int},cW w u l->cW (w.setCell ⟨gF,i,none⟩ v) u l:=λhu=>bW hu YL (by decide) hk;refine⟨bW h.rR YL (by decide) hk,λp hp=>bW (h.rr p hp) YL (by decide) hk,Yc h.lR,?_,λj u hu=> ?_⟩
 . have hr:=h.fR
   rw[vq] at hr;obtain⟨r1,r2|⟨g',Y7,KO,hv,hb,hg,cd,QY,du,xu⟩⟩:=hr
   . cases r2.1
   cases hv
   show (w.setCell ⟨gF,i,none⟩ v).ownsRow 0 _ 1 S.vF (D.fL.set i l).length (S.fv.set i v);rw[vq,List.length_set];refine⟨by rw[List.length_set];exact r1,.inr ⟨gF,cap,_,rfl,hb,aC w gF i v _ _ _ hg,cd,QY,by simpa using du,?_⟩⟩;rw[Array.toList_setIfInBounds,List.take_set,xu]
 have uf:(S.fv.set i v)[j]?=some u:=hu
 show cW _ u (eX ((D.fL.set i l).getD j []))/\_;by_cases Qr:i=j
 . subst Qr
   rw[List.getElem?_set_self (by omega)] at uf;cases uf;have e:(D.fL.set i l).getD i []=l:=by rw[zLf,List.getElem?_set_self hi];rfl
   rw[e];exact⟨Yc hl,qo⟩
 rw[List.getElem?_set_ne Qr] at uf
 have e:(D.fL.set i l).getD j []=D.fL.getD j []:=by rw[zLf,List.getElem?_set_ne Qr,<-zLf]
 rw[e];exact⟨Yc (h.fli j u uf).1,(h.fli j u uf).2⟩
theorem PlR.setL (h:PlR S D w) {gL cap:Nat} {x:Int} (J0:S.vL=.slice (some ⟨gL,0,none⟩) D.last.length cap) (hi:i<D.last.length):
 PlR S {D with last:=D.last.set i x} (w.setCell ⟨gL,i,none⟩ (.int .i64 x))/\(∀ (v:Value) (l:List Int),cW w v l->(∀ g,v.ownBlock=some g->S.vL.ownBlock≠some g)->cW (w.setCell ⟨gL,i,none⟩ (.int .i64 x)) v l):=by
 have hl:=h.lR;unfold cW at hl;have Gk:∃ cs,w.heap[gL]?=some (.cells cs 3 (0,0)):=dK hl (by rw[J0];rfl);obtain⟨cs,YL⟩:=Gk;have hk:∀ g,g≠gL->(w.setCell ⟨gL,i,none⟩ (.int .i64 x)).heap[g]?=w.heap[g]?:=λg hg=>aG _ _ _ _ hg;have Yc:∀ (v:Value) (l:List Int),cW w v l->(∀ g,v.ownBlock=some g->S.vL.ownBlock≠some g)->cW (w.setCell ⟨gL,i,none⟩ (.int .i64 x)) v l:=λv l hv hn=>aU hv λg hg=>hk g λe=>hn g hg (by rw[J0,e];rfl)
 refine⟨⟨bW h.rR YL (by decide) hk,λp hp=>bW (h.rr p hp) YL (by decide) hk,?_,bW h.fR YL (by decide) hk,λj u hu=>⟨Yc _ _ (h.fli j u hu).1 (h.fli j u hu).2,(h.fli j u hu).2⟩⟩,Yc⟩;rw[J0] at hl;obtain⟨r1,r2|⟨g',Y7,KO,hv,hb,hg,cd,QY,du,xu⟩⟩:=hl
 . cases r2.1
 cases hv
 show cW _ S.vL (D.last.set i x);unfold cW;rw[J0,List.length_set];have e:dE (D.last.set i x)=(dE D.last).set i (.int .i64 x):=by unfold dE;rw[List.map_set]
 rw[e];refine⟨by rw[List.length_set];exact r1,.inr ⟨gL,cap,_,rfl,hb,aC w gL i _ _ _ _ hg,cd,QY,by simpa using du,?_⟩⟩;rw[Array.toList_setIfInBounds,List.take_set,xu]
theorem tab_begin (h:PlR S D w):fV w.heap.size ⟨D.rL,D.last,D.fL,[],[],[],0⟩ ⟨S.vR,S.vL,S.vF,.slice none 0 0,.slice none 0 0,.slice none 0 0,S.fv,[],[]⟩ (w.alloc (.cells #[S.vR,S.vL,S.vF,.slice none 0 0,.slice none 0 0,.slice none 0 0,.int .i64 0] 277)):=by
 have hp:=h.below ((zBr w.heap.size w).alloc (zR _) (.cells #[S.vR,S.vL,S.vF,.slice none 0 0,.slice none 0 0,.slice none 0 0,.int .i64 0] 277));exact⟨bR _ _ _ rfl,hp.rR,hp.rr,hp.lR,hp.fR,λi v hv=>(hp.fli i v hv).1,cW.nil _,World.ownsRow_nil _ _ _ _,λi v hv=>(by simp at hv),World.ownsRow_nil _ _ _ _,λi v hv=>(by simp at hv),λg hg=>(by cases hg),λg hg=>(by cases hg)⟩
end
theorem zdo (t:aJ):∀ (ts:List aJ) (i:Nat) (M M2:Mk),uT ts i M=some M2->uT (ts++[t]) i M=if (eN t M2).2.on=true then none else some ((eN t M2).2.fin (eN t M2).1 (i+ts.length))
 | [],i,M,M2,h=>by
  rw[uT] at h;cases h;rw[List.nil_append,uT];split
  . rfl
  . rw[uT];rfl
 | u::ts,i,M,M2,h=>by
  rw[uT] at h;split at h
  . cases h
  rename_i qq
  rw[List.cons_append,uT,zN qq,zdo t ts _ _ _ h];rw[show i+1+ts.length=i+(u::ts).length by simp;omega]
structure kE (sT:List ByteArray) (i:Nat) (ts:List aJ) (M:Mk):Prop where
 len:ts.length=i
 parse:∀ (j:Nat) (s:ByteArray),j<i->sT[j]?=some s->∃ t,ts[j]?=some t/\fZ s=.ok t
 run:uT ts 0 mk0=some M
 small:∀ s∈sT,s.size<=60
inductive vZ (Lo:List aJ->gK) (sT:List ByteArray):Nat->Int->Int->Prop where
 | count (h:sT.length<1\/8<sT.length):vZ Lo sT 1 (-1) (-1)
 | size (i:Nat) (s:ByteArray) (h:1<=sT.length/\sT.length<=8) (hs:sT[i]?=some s) (hb:60<s.size) (hf:∀ (j:Nat) (u:ByteArray),j<i->sT[j]?=some u->u.size<=60):vZ Lo sT 1 i 0
 | parse (i:Nat) (s:ByteArray) (ts:List aJ) (M:Mk) (er:jU) (h:1<=sT.length/\sT.length<=8) (hf:kE sT i ts M) (hs:sT[i]?=some s) (he:fZ s=.error er) (h0:er.1≠0):vZ Lo sT er.1 i er.2
 | full (i:Nat) (s:ByteArray) (ts:List aJ) (M:Mk) (t:aJ) (h:1<=sT.length/\sT.length<=8) (hf:kE sT i ts M) (hs:sT[i]?=some s) (ht:fZ s=.ok t) (ho:(eN t M).2.on=true):vZ Lo sT 6 i 0
 | states (ts:List aJ) (M:Mk) (h:1<=sT.length/\sT.length<=8) (hf:kE sT sT.length ts M) (hm:bU (Lo ts) ((bB (Lo ts).cL).map (bG (Lo ts).cL)) 202 [(1,0)] [] []=none):vZ Lo sT 7 (-1) (-1)
theorem kE.next {t:aJ} (h:kE sT i ts M) (hs:sT[i]?=some s) (ht:fZ s=.ok t) (ho:(eN t M).2.on=false):kE sT (i+1) (ts++[t]) ((eN t M).2.fin (eN t M).1 i):=by
 refine⟨by simp[h.len],λj u hj hu=> ?_,?_,h.small⟩
 . by_cases e:j=i
   . subst e
     rw[hs] at hu;cases hu;exact⟨t,by rw[<-h.len];simp,ht⟩
   obtain⟨t2,h1,h2⟩:=h.parse j u (by omega) hu
   exact⟨t2,by rw[zGl (by rw[h.len];omega)];exact h1,h2⟩
 rw[zdo t ts 0 mk0 M h.run,zN (by rw[ho];decide),Nat.zero_add,h.len]
theorem zc6 {last:List Int} (h:∀ k,-1<=last.getD k (-1)/\last.getD k (-1)<=1000):∀ (l:List Nat) (b:Int),-1<=b/\b<=1000-> -1<=l.foldl (jB last) b/\l.foldl (jB last) b<=1000
 | [],b,hb=>hb
 | x::l,b,hb=>by
  refine zc6 h l (jB last b x) ?_;unfold jB;split
  . exact h x
  exact hb
theorem wid_valid {c:Int} (h:cH c=true):widR c=fJ c/\1<=fJ c/\fJ c<=4:=by
 rw[dS] at h;unfold widR fJ
 repeat' split
 all_goals omega
theorem go_cell (hm:pI L ((bB L.cL).map (bG L.cL)) sE rU gO) (hl:rU.length=sE.length) (i k:Nat):
 (gO.getD i []).getD k (-1)= -1\/∃ (s:aW) (j:Nat),sE[i]?=some s/\k<(bB L.cL).length/\sE[j]?=some (qX L s ((bB L.cL).getD k 0))/\qX L s ((bB L.cL).getD k 0)≠(0,0)/\(gO.getD i []).getD k (-1)=(j:Int):=by
 rcases zLg i sE.length with hi|hi
 . obtain⟨s,hs⟩:=zG sE i hi
   obtain⟨r,row,h1,h2,h3,h4,h5⟩:=hm.row i s hs (by omega);have hg:gO.getD i []=row:=by rw[zLf,h2];rfl
   rw[hg];rw[List.length_map] at h4
   rcases zLg k (bB L.cL).length with hk|hk
   . obtain⟨x,h6,h7⟩:=h5 k (bG L.cL ((bB L.cL).getD k 0)) (by
      rw[List.getElem?_map,zLf,zLe hk];rfl)
     have hx:row.getD k (-1)=x:=by rw[zLf,h6];rfl
     rw[hx];by_cases h0:qX L s ((bB L.cL).getD k 0)=(0,0)
     . exact .inl (h7.1 h0)
     obtain⟨j,h8,h9⟩:=h7.2 h0
     exact .inr ⟨s,j,hs,hk,h8,h0,h9⟩
   left
   rw[zLf,zGn (by omega)];rfl
 left
 have hg:gO.getD i []=[]:=by rw[zLf,zGn (by have:=hm.lg;omega)];rfl
 rw[hg];rfl
theorem toS_valid (Qt:L.cL.length<=65) (Hv:∀ x∈L.fO,x.Ok) {s:aW} {c:Int} (h:qX L s c≠(0,0)):cH c=true:=by
 rcases Classical.em (cH c=true) with h1|h1
 . exact h1
 exact absurd (zbb Qt Hv s h1) h
theorem bnd_of (hg:pE L ((bB L.cL).map (bG L.cL)) rU.length sE rU gO) (Hg:rU.length=sE.length) (hR:RefL (D.rL.map (·.2)) D.fL D.last L)
 (hc:D.cU=bB L.cL) (ym:D.gO=gO) (hs:D.sE=sE.map (fM · L.cL.length)) (K2:∀ k,-1<=D.last.getD k (-1)/\D.last.getD k (-1)<=1000) (yp:(bB L.cL).length<=50000):
 BndH D ⟨bB L.cL,rU,gO,0⟩ rU.length (bB L.cL).length:=by
 have hm:=hg.m;have Et:∀ i,i<rU.length->∃ s,sE[i]?=some s/\D.sE.getD i []=fM s L.cL.length:=λi hi=>by
  obtain⟨s,h1⟩:=zG sE i (by omega);exact⟨s,h1,by rw[hs];exact zcg h1⟩
 have JZ:∀ i,i<rU.length->(D.sE.getD i []).foldl (jB D.last) (-1)=ruO ⟨bB L.cL,rU,gO,0⟩ (i:Int):=λi hi=>by
  obtain⟨s,h1,h2⟩:=Et i hi;obtain⟨r,row,h3,h4,h5,_⟩:=hm.row i s h1 hi;rw[h2,rule_eq hR s _ (zR _),<-h5];show r=rU.getD ((i:Int).toNat) 0;rw[Int.toNat_natCast,zLf,h3];rfl
 have XC:∀ i k,qH ⟨bB L.cL,rU,gO,0⟩ i k=(gO.getD i []).getD k (-1):=λ_ _=>rfl;have h1:=(List.getElem?_eq_some_iff.1 hm.hd).1;refine⟨hc.symm,ym.symm,by rw[hs];simp[Hg],by rw[ym];exact hm.lg,by rw[hc],λr hr=> ?_,λi k=> ?_,λi k h=> ?_,JZ,λi hi=> ?_,λi hi=> ?_,⟨by omega,by have:=hm.max;omega⟩,yp⟩
 . rw[ym] at hr
   obtain⟨i,hi⟩:=List.mem_iff_getElem?.1 hr;have xm:=(List.getElem?_eq_some_iff.1 hi).1;have Dd:=hm.lg;obtain⟨s,ye⟩:=zG sE i (by omega);obtain⟨r2,row,h3,h4,_,h5,_⟩:=hm.row i s ye (by omega);rw[hi] at h4;cases h4;rw[h5,List.length_map]
 . rw[XC]
   rcases go_cell hm Hg i k with h|⟨s,j,_,_,h2,_,h3⟩
   . rw[h];omega
   have:=(List.getElem?_eq_some_iff.1 h2).1
   rw[h3];omega
 . rw[XC] at h
   rcases go_cell hm Hg i k with h2|⟨s,j,_,_,_,h2,_⟩
   . rw[h2] at h;omega
   exact wid_valid (toS_valid hR.le hR.fok h2)
 . rw[<-JZ i hi]
   exact zc6 K2 _ _ (by omega)
 obtain⟨s,_,h2⟩:=Et i hi
 rw[h2];refine⟨λx hx=>by rw[hR.an];exact (oP.1 hx).1,?_⟩;have:=vN s L.cL.length;have:=hR.le;omega
theorem bound_ref {f:Nat} {b:Int} (hB:BndH D ⟨bB L.cL,rU,gO,0⟩ rU.length (bB L.cL).length) (hg:pE L ((bB L.cL).map (bG L.cL)) rU.length sE rU gO)
 (vm:bU L ((bB L.cL).map (bG L.cL)) 202 [(1,0)] [] []=some (rU,gO)) (h:zcF f ⟨bB L.cL,rU,gO,0⟩=some b):xA ⟨bB L.cL,rU,gO,0⟩ rU.length (bB L.cL).length (rU.length+2) (List.replicate rU.length 0)=b:=by
 have NY:∀ r∈gO,r.length=(bB L.cL).length:=λr hr=>hB.rows r (by rw[<-hB.g];exact hr);refine zfn hg.m.lg NY hB.to' (λi k h=>(hB.wid i k h).2.1) (λj h1 h2=> ?_) h;obtain⟨i,k,h3,h4,h5⟩:=zfF vm j h1 h2;refine⟨i,k,h3,?_,h5⟩;rw[NY _ (by
  have Dd:=hg.m.lg;rw[zLf,zLe (by omega)];exact List.getElem_mem _)] at h4
 exact h4
def RefO (Lo:List aJ->gK) (sT:List ByteArray) (w:World) (e:Ending) (w':World):Prop:=
 Below w.heap.size w w'/\((∃ (er:Nat) (r a:Int),vZ Lo sT er r a/\e=.returned (.tuple #[.pointer none,.int .i64 er,.int .i64 r,.int .i64 a]))\/
  ∃ (tb:Nat) (ts:List aJ) (M:Mk) (rU:List Int) (gO:List (List Int)) (sE:List aW) (D:TD) (S:TS),(1<=sT.length/\sT.length<=8)/\kE sT sT.length ts M/\bU (Lo ts) ((bB (Lo ts).cL).map (bG (Lo ts).cL)) 202 [(1,0)] [] []=some (rU,gO)/\
   pE (Lo ts) ((bB (Lo ts).cL).map (bG (Lo ts).cL)) rU.length sE rU gO/\rU.length=sE.length/\RefL (D.rL.map (·.2)) D.fL D.last (Lo ts)/\D.cU=bB (Lo ts).cL/\D.gO=gO/\D.sE=sE.map (fM · (Lo ts).cL.length)/\
   D.bound=xA ⟨bB (Lo ts).cL,rU,gO,0⟩ rU.length (bB (Lo ts).cL).length (rU.length+2) (List.replicate rU.length 0)/\
   fV tb D S w'/\w.heap.size<=tb/\e=.returned (.tuple #[bJ tb,.int .i64 0,.int .i64 0,.int .i64 0]))
theorem str_at (h:w.ownsRow 0 9 1 v sT.length (sT.map Value.string)) (hs:sT[i]?=some s):∃ g cap,v=.slice (some ⟨g,0,none⟩) sT.length cap/\g<w.heap.size/\w.cell? ⟨g,i,none⟩=some (.string s):=by
 obtain⟨g,cap,u,e,hg,hu,hc⟩:=qE h (List.getElem?_eq_some_iff.1 hs).1;rw[List.getElem?_map,hs] at hu;cases hu;exact⟨g,cap,e,hg,hc⟩
theorem pl_begin (w:World):
 PlR ⟨.slice (some ⟨w.heap.size,0,none⟩) 1 1,.slice (some ⟨w.heap.size+1,0,none⟩) 1 1,.slice (some ⟨w.heap.size+1+1,0,none⟩) 1 1,[.slice none 0 0]⟩ ⟨[(.slice none 0 0,[])],[-1],[[]],false⟩ (((w.alloc (.cells #[.slice none 0 0] 299)).alloc (.cells #[.int .i64 (-1)] 3)).alloc (.cells #[.slice none 0 0] 39)):=by
 have e1:(w.alloc (.cells #[.slice none 0 0] 299)).heap.size=w.heap.size+1:=by simp
 have e2:((w.alloc (.cells #[.slice none 0 0] 299)).alloc (.cells #[.int .i64 (-1)] 3)).heap.size=w.heap.size+1+1:=by simp
 have h1:(w.alloc (.cells #[.slice none 0 0] 299)).ownsRow 0 299 1 (.slice (some ⟨w.heap.size,0,none⟩) 1 1) 1 [.slice none 0 0]:=⟨rfl,.inr ⟨w.heap.size,1,_,rfl,zZ _,bR _ _ _ rfl,zR _,by decide,rfl,rfl⟩⟩;have h2:=li_one (w.alloc (.cells #[.slice none 0 0] 299)) (-1);rw[e1] at h2
 have h3:(((w.alloc (.cells #[.slice none 0 0] 299)).alloc (.cells #[.int .i64 (-1)] 3)).alloc (.cells #[.slice none 0 0] 39)).ownsRow 0 39 1 (.slice (some ⟨w.heap.size+1+1,0,none⟩) 1 1) 1 [.slice none 0 0]:=⟨rfl,.inr ⟨w.heap.size+1+1,1,_,rfl,zZ _,bR _ _ _ (by rw[e2]),zR _,by decide,rfl,rfl⟩⟩;have b1:=(zBr _ (w.alloc (.cells #[.slice none 0 0] 299))).alloc (zR _) (.cells #[.int .i64 (-1)] 3)
 have b2:=(zBr _ ((w.alloc (.cells #[.slice none 0 0] 299)).alloc (.cells #[.int .i64 (-1)] 3))).alloc (zR _) (.cells #[.slice none 0 0] 39);refine⟨aZ (aZ h1 b1) b2,λp hp=> ?_,cW.below h2 b2,h3,λi v hv=> ?_⟩
 . rw[zMs] at hp
   subst hp;exact World.ownsRow_nil _ _ _ _
 cases i with
 | zero=>
  simp at hv;subst hv;exact⟨cW.nil _,λg hg=>by cases hg⟩
 | succ i=>simp at hv
theorem rel_begin:kJ ⟨[(.slice none 0 0,[])],[-1],[[]],false⟩ mk0:=by
 refine⟨rfl,rfl,rfl,rfl,λk=> ?_,λp hp r hr=> ?_⟩
 . cases k with
   | zero=>exact lF.refl _
   | succ k=>exact lF.refl _
 rw[zMs] at hp
 subst hp;cases hr
structure BetS (Lo:List aJ->gK) (sT:List ByteArray) (w:World) (P i:Nat) (ts:List aJ) (M:Mk) (D:MD) (S:MS) (wr:World):Prop where
 so:kE sT i ts M
 ok:gD M
 on:M.on=false
 one:1<=M.fL.length
 rel:kJ D M
 pl:PlR S D wr
 pb:PlB w.heap.size S
 cell:wr.heap[P]?=some (.cells #[S.vR,S.vL,S.vF] 262 (0,0))
 bel:Below w.heap.size w wr
 p:w.heap.size<=P
theorem BetS.later {Lo:List aJ->gK} {wr:World} {P:Nat} {D:MD} (h:BetS Lo sT w P i ts M D S wr) (hb:Below wr.heap.size wr w'):BetS Lo sT w P i ts M D S w':=
 ⟨h.so,h.ok,h.on,h.one,h.rel,h.pl.below hb,h.pb,(hb.block P (aA h.cell)).trans h.cell,h.bel.trans (hb.mono h.bel.size),h.p⟩
theorem PBt.oth {mb Q A:Nat} {p:jK} {ao al:Option Addr} {co cl:Nat} {cs:Array Value} (h:PBt mb S w Q p ao al co cl) (hA:w.heap[A]?=some (.cells cs 262 (0,0))) (hk:∀ g,g≠A->w'.heap[g]?=w.heap[g]?):PBt mb S w' Q p ao al co cl:=
 ⟨(hk Q (λe=>by subst e;exact absurd (eE h.b hA) (by decide))).trans h.b,⟨bW h.f.1 hA (by decide) hk,h.f.2⟩,⟨bW h.l.1 hA (by decide) hk,h.l.2⟩⟩
theorem zej (l:List Nat) (x:Nat) (i:Int) (a:List Int):nE (l++[x]) i a=(nE l i a).set x i:=by
 unfold nE;rw[List.foldl_append];rfl
structure zfg (w:World) (P Q:Nat) (al:Option Addr) (cl:Nat) (ls:List Nat) (D:MD) (S:MS) (wr:World):Prop where
 pl:PlR S D wr
 pb:PlB w.heap.size S
 cell:wr.heap[P]?=some (.cells #[S.vR,S.vL,S.vF] 262 (0,0))
 q:wr.cell? ⟨Q,2,none⟩=some (.slice al ls.length cl)
 lq:Q<wr.heap.size
 tq:∃ cs,wr.heap[Q]?=some (.cells cs 273 (0,0))
 li:cW wr (.slice al ls.length cl) (eX ls)
 ne:∀ g,(Value.slice al ls.length cl).ownBlock=some g->S.vL.ownBlock≠some g
 bel:Below w.heap.size w wr
theorem zfg.later {wr:World} {P Q:Nat} {al:Option Addr} {cl:Nat} {ls:List Nat} {D:MD} (h:zfg w P Q al cl ls D S wr) (hb:Below wr.heap.size wr w'):zfg w P Q al cl ls D S w':=by
 obtain⟨cs,YL⟩:=h.tq;exact⟨h.pl.below hb,h.pb,(hb.block P (aA h.cell)).trans h.cell,(aL hb ⟨Q,2,none⟩ h.lq).trans h.q,zLd h.lq hb.size,⟨cs,(hb.block Q h.lq).trans YL⟩,h.li.below hb,h.ne,h.bel.trans (hb.mono h.bel.size)⟩
theorem TKp.below {tb B:Nat} {u:World} (h:TKp tb u w) (hB:B<=u.heap.size) (ht:B<=tb):Below B u w:=⟨h.os,h.tape,h.output,h.size,λb hb=>h.keep b (by omega) (by omega)⟩
theorem fV.setB {tb:Nat} {S:TS} (h:fV tb D S w) (x:Int):fV tb {D with bound:=x} S (w.setCell ⟨tb,6,none⟩ (.int .i64 x)):=by
 have hk:∀ g,g≠tb->(w.setCell ⟨tb,6,none⟩ (.int .i64 x)).heap[g]?=w.heap[g]?:=λg hg=>aG _ _ _ _ hg;have hl:∀ {u:Value} {l:List Int},cW w u l->cW (w.setCell ⟨tb,6,none⟩ (.int .i64 x)) u l:=λhu=>aU hu λg hg=>hk g (h.ne hu (by decide) hg)
 exact⟨by rw[aC w tb 6 _ _ _ _ h.blk];rfl,aU h.rR λg hg=>hk g (h.ne h.rR (by decide) hg),λp hp=>aU (h.rr p hp) λg hg=>hk g (h.ne (h.rr p hp) (by decide) hg),hl h.lR,aU h.fR λg hg=>hk g (h.ne h.fR (by decide) hg),λi u hu=>hl (h.fli i u hu),hl h.crow,aU h.srow λg hg=>hk g (h.ne h.srow (by decide) hg),λi u hu=>hl (h.sli i u hu),aU h.grow λg hg=>hk g (h.ne h.grow (by decide) hg),λi u hu=>hl (h.gli i u hu),h.a1,h.a2⟩
structure LoOk (L:gK) (ts:List aJ):Prop where
 spec:zdA L ts
 rng:∀ c∈L.cL,gA c
 cl:(bB L.cL).length<=50000
 few:ts.length<=8
theorem row_max {e:TypeId} {size:Nat} {xs:List Value} (h:w.ownsRow 0 e size v n xs):n<=9223372036854775807:=by
 obtain⟨_,h2|⟨g,cap,KO,_,_,_,cd,QY,_⟩⟩:=h
 . omega
 unfold maxLen at QY;omega
theorem cuts_ref (hR:RefL (D.rL.map (·.2)) D.fL D.last L) (x:Int):x∈bB L.cL↔x∈bX\/∃ p∈D.rL,jJ p.2 x:=by
 rw[zao,uA];by_cases hw:x∈bX
 . simp[hw]
 have hl:=hR.ln
 rw[List.length_map] at hl;have key:∀ k,k<L.cL.length->(jJ ((D.rL.map (·.2)).getD k []) x↔jJ (L.cL.getD k []) x):=λk hk=>(hR.cL k).cut x hw;constructor
 . rintro (h|⟨c,hc,r,hr,hx⟩)
   . exact absurd h hw
   obtain⟨k,hk⟩:=List.mem_iff_getElem?.1 hc
   have Y1:=(List.getElem?_eq_some_iff.1 hk).1;have h1:jJ (L.cL.getD k []) x:=by rw[zLf,hk];exact⟨r,hr,hx⟩
   have h2:=(key k Y1).2 h1;obtain⟨p,hp⟩:=zG D.rL k (by omega);rw[zLf,List.getElem?_map,hp] at h2;exact .inr ⟨p,zM hp,h2⟩
 rintro (h|⟨p,hp,hx⟩)
 . exact absurd h hw
 obtain⟨k,hk⟩:=List.mem_iff_getElem?.1 hp
 have Y1:=(List.getElem?_eq_some_iff.1 hk).1;have h1:jJ ((D.rL.map (·.2)).getD k []) x:=by rw[zLf,List.getElem?_map,hk];exact hx
 obtain⟨r,hr,hx⟩:=(key k (by omega)).1 h1;refine .inr ⟨L.cL.getD k [],?_,r,hr,hx⟩;rw[zLf,zLe (by omega)];exact List.getElem_mem _
theorem zeL (h:LoOk L ts) {rL:List Rng} {fL:List (List Nat)} {last:List Int} (hR:RefL rL fL last L) (k:Nat): -1<=last.getD k (-1)/\last.getD k (-1)<=1000:=by
 rcases zLg k L.cL.length with hk|hk
 . rw[hR.last' k hk]
   rcases Nat.eq_zero_or_pos k with rfl|h0
   . rw[h.spec.rul0];omega
   rw[h.spec.rul k h0 hk]
   rcases yJ ts 0 1 k with e|⟨j,e,hj⟩
   . rw[e];omega
   rw[e];have:=h.few;omega
 rw[zLf,zGn (by rw[hR.an];exact hk)]
 show -1<=(-1:Int)/\(-1:Int)<=1000;omega
theorem grow_h (h:LoOk L ts) (hR:RefL (D.rL.map (·.2)) D.fL D.last L) (hc:D.cU=bB L.cL) (hf:zcx D.fL) (hr:∀ p∈D.rL,p.2.length<=9223372036854775807):GrowH D L:=by
 refine⟨hR,by rw[h.spec.len];omega,hc,λx hx=> ?_,by rw[hc];exact h.cl,λr cy=> ?_,hr⟩
 . rw[hc] at hx
   exact rE h.rng hx
 have:=cZ (hf.nd r cy) (hf.lt r cy)
 have h2:=hR.fn;have:=hR.le;omega
theorem zal (Lo:List aJ->gK) (sT:List ByteArray) (w:World) (v:Value) (Hb:w.ownsRow 0 9 1 v sT.length (sT.map Value.string)) (hl:sT.length<=1000000) (h0:0<w.heap.size) (hLo:sT.length<=8->∀ ts M,kE sT sT.length ts M->LoOk (Lo ts) ts):
 Calls Tryz.prog 104 #[v] w (RefO Lo sT w):=by
 obtain⟨ao,cap,rfl⟩:=bM Hb;have Wq:=zh hLo;have qk:=zh Hb;have HL:=zh (zAi hl h0);clear Hb hl h0 hLo;go_enter Tryz.func104,Tryz.ntmps104;by_cases NM:sT.length<1
 . have z1:(sT.length:Int)<1:=by omega
   have HV:zH (vZ Lo sT 1 (-1) (-1)):=zh (.count (.inl NM));clear NM;go_wp2_with (fail);refine bodyPost_ret (v:=.tuple #[.pointer none,.int .i64 1,.int .i64 (-1),.int .i64 (-1)]) (by simp[results,Tryz.results104,go_sem]) rfl ?_;exact⟨zBr _ _,.inl ⟨1,-1,-1,HV.o,rfl⟩⟩
 have z1:¬ (sT.length:Int)<1:=by omega
 by_cases je:8<sT.length
 . have z2:(8:Int)<(sT.length:Int):=by omega
   have HV:zH (vZ Lo sT 1 (-1) (-1)):=zh (.count (.inr je));clear NM je;go_wp2_with (fail);refine bodyPost_ret (v:=.tuple #[.pointer none,.int .i64 1,.int .i64 (-1),.int .i64 (-1)]) (by simp[results,Tryz.results104,go_sem]) rfl ?_;exact⟨zBr _ _,.inl ⟨1,-1,-1,HV.o,rfl⟩⟩
 have z2:¬ (8:Int)<(sT.length:Int):=by omega
 have HN:zH (1<=sT.length/\sT.length<=8):=zh ⟨by omega,by omega⟩;clear NM je;go_wp2_with (fail);go_loopw [6] (λs6 wr=>∃ i:Nat,s6=.int .i64 i/\i<=sT.length/\(∀ (j:Nat) (u:ByteArray),j<i->sT[j]?=some u->u.size<=60)/\wr=w) (λs6 _=>sT.length-(RowKit.intOf s6).toNat)
 case atStart=>exact⟨0,rfl,by omega,λj u hj=>by omega,rfl⟩
 case round=>
  obtain⟨i,rfl,hi,Ev,rfl⟩:=hrel;have YZ:=zh Ev;clear Ev;by_cases Hf:i<sT.length
  . have zl:(i:Int)<(sT.length:Int):=by omega
    have Xe:=zW i (by have:=HL.o;omega);obtain⟨s,hs⟩:=zG sT i Hf;obtain⟨g,Y7,e,lg,cg⟩:=str_at qk.o hs;cases e;have HS:=zh hs;clear hs;by_cases Qo:60<s.size
    . have z3:(60:Int)<(s.size:Int):=by omega
      have HV:zH (vZ Lo sT 1 i 0):=zh (.size i s HN.o HS.o Qo YZ.o);clear Qo;go_wp2_with (fail);refine bodyPost_ret (v:=.tuple #[.pointer none,.int .i64 1,.int .i64 i,.int .i64 0]) (by simp[results,Tryz.results104,go_sem]) rfl ?_;exact⟨zBr _ _,.inl ⟨1,i,0,HV.o,rfl⟩⟩
    have z3:¬ (60:Int)<(s.size:Int):=by omega
    have HB:=zh Qo;clear Qo;go_wp2_with (fail);go_roundw
    case rel=>exact⟨i+1,by go_num,by omega,(λj u hj hu=>by
     by_cases e:j=i
     . subst e
       rw[HS.o] at hu;cases hu;have:=HB.o;omega
     . exact YZ.o j u (by omega) hu),trivial⟩
    case measure=>(simp[zI]<;>omega)
  have zl:¬ (i:Int)<(sT.length:Int):=by omega
  have JN:zH (∀ s∈sT,s.size<=60):=zh (λs hs=>by
   obtain⟨j,hj⟩:=List.mem_iff_getElem?.1 hs;exact YZ.o j s (by have:=(List.getElem?_eq_some_iff.1 hj).1;omega) hj)
  go_upto_region 9 with (fail)
  have e3:(((wr.alloc (.cells #[.slice none 0 0] 299)).alloc (.cells #[.int .i64 (-1)] 3)).alloc (.cells #[.slice none 0 0] 39)).heap.size=wr.heap.size+1+1+1:=by simp
  have xp:=pl_begin wr;have Qi:Below wr.heap.size wr (((wr.alloc (.cells #[.slice none 0 0] 299)).alloc (.cells #[.int .i64 (-1)] 3)).alloc (.cells #[.slice none 0 0] 39)):=(((zBr _ wr).alloc (zR _) _).alloc (by simp) _).alloc (by simp;omega) _
  have tG:zH (∃ (ts:List aJ) (M:Mk) (D:MD) (S:MS),BetS Lo sT wr (wr.heap.size+1+1+1) 0 ts M D S ((((wr.alloc (.cells #[.slice none 0 0] 299)).alloc (.cells #[.int .i64 (-1)] 3)).alloc (.cells #[.slice none 0 0] 39)).alloc (.cells #[.slice (some ⟨wr.heap.size,0,none⟩) 1 1,.slice (some ⟨wr.heap.size+1,0,none⟩) 1 1,.slice (some ⟨wr.heap.size+1+1,0,none⟩) 1 1] 262))):=zh
   ⟨[],mk0,_,_,⟨rfl,λj s hj=>by omega,rfl,JN.o⟩,zc7,rfl,by decide,rel_begin,xp.below ((zBr _ _).alloc (zR _) _),⟨λg hg=>(by cases hg;exact zR _),λg hg=>(by cases hg;exact Nat.le_succ _),λg hg=>(by cases hg;exact zT (Nat.le_succ _) (Nat.le_succ _))⟩,bR _ _ _ (by rw[e3]),Qi.alloc (by rw[e3];omega) _,by omega⟩
  clear e3 xp Qi YZ;generalize (((wr.alloc (.cells #[.slice none 0 0] 299)).alloc (.cells #[.int .i64 (-1)] 3)).alloc (.cells #[.slice none 0 0] 39)).alloc (.cells #[.slice (some ⟨wr.heap.size,0,none⟩) 1 1,.slice (some ⟨wr.heap.size+1,0,none⟩) 1 1,.slice (some ⟨wr.heap.size+1+1,0,none⟩) 1 1] 262)=w1 at tG ⊢;obtain⟨w0,uh⟩:=zE (wr);rw[<-uh] at qk HL tG ⊢;generalize w0.heap.size+1+1+1=P at tG ⊢;have Fb:=zh uh;clear uh;go_wp2_with (fail)
  go_loopw [8] (λs8 wr=>∃ (i:Nat) (ts:List aJ) (M:Mk) (D:MD) (S:MS),s8=.int .i64 i/\i<=sT.length/\BetS Lo sT w0 P i ts M D S wr) (λs8 _=>sT.length-(RowKit.intOf s8).toNat)
  case atStart=>
   obtain⟨ts,M,D,S,hb⟩:=tG.o;exact⟨0,ts,M,D,S,rfl,by omega,hb⟩
  case round=>
   clear tG;obtain⟨i,ts,M,D,S,rfl,hi,Ny⟩:=hrel;have XE:=zh Ny;clear Ny;by_cases Hf:i<sT.length
   . have zl:(i:Int)<(sT.length:Int):=by omega
     have Xe:=zW i (by have:=HL.o;omega);obtain⟨s,hs⟩:=zG sT i Hf;obtain⟨g,Y7,e,lg0,cg0⟩:=str_at qk.o hs;cases e;have cg:=(aL XE.o.bel ⟨g,i,none⟩ lg0).trans cg0;have lg:g<wr.heap.size:=zLd lg0 XE.o.bel.size;have HS:=zh hs;have Qc:s.size<=60:=JN.o s (zM hs);clear hs cg0 lg0;go_upto_region 13 with (fail)
     have Hr:=(zBr wr.heap.size wr).alloc (zR _) (.cells #[.string s,.int .i64 0,.int .i64 0,.int .i64 0,.slice none 0 0] 266);have JL:zH (eW w0.heap.size wr.heap.size s ⟨0,0,0,[]⟩ (.slice none 0 0) (wr.alloc (.cells #[.string s,.int .i64 0,.int .i64 0,.int .i64 0,.slice none 0 0] 266))):=zh ⟨bR _ _ _ rfl,World.ownsRow_nil _ _ _ _,⟨HL.o.2,XE.o.bel.size,λg hg=>(by cases hg)⟩,⟨Qc,zZ _,by decide,by decide⟩,λd hd=>(by cases hd),λd hd=>(by cases hd)⟩;have YI:=zh Hr;clear Hr cg lg
     generalize wr.alloc (.cells #[.string s,.int .i64 0,.int .i64 0,.int .i64 0,.slice none 0 0] 266)=w2 at JL YI ⊢;obtain⟨pb,PB⟩:∃ pb,wr.heap.size=pb:=⟨_,rfl⟩;have u9:=zh PB;rw[PB] at JL YI ⊢;clear PB;have HK:=zh ((zfV (4*s.size+10)).2.2 w0.heap.size pb s ⟨0,0,0,[]⟩ (.slice none 0 0) w2 0 JL.o rfl (zZ _) (by decide) (zeq Qc));have CM:zH (fZ s=match kH s (4*s.size+10) 0 0 with| .error e=>.error e| .ok (t,q)=>if q<s.size then .error (2,q) else .ok t):=zh rfl
     obtain⟨RP,MJ⟩:=zE (kH s (4*s.size+10) 0 0);have VU:zH (Calls Tryz.prog 125 #[bJ pb,.int .i64 0] w2 (yV w0.heap.size pb s ⟨0,0,0,[]⟩ 1 6 0 RP (.slice none 0 0) w2)):=zh (by rw[MJ];exact HK.o);rw[<-MJ] at CM;clear MJ HK;unfold bJ at VU;go_upto_region 14 with (go_at_call 125;refine VU.o.mono ?_;rintro e' w3 ⟨k,y,lv,rfl,g1,g2,g3,g4,g5,g6⟩;have H3:=zh (zAi g1 (zAi g2 g4));have HT:=zh g6;clear g1 g2 g3 g4 g5 g6)
     obtain⟨y0,y1,y2,y3,y4⟩:=H3.o.1.cells;have lpb:=H3.o.1.lt;have DA:=H3.o.1.sz;have Qi:Below pb wr w3:=YI.o.trans (H3.o.2.1.below (B:=pb) (by have:=JL.o.lt;omega) (zR _) (λg hg=>(by cases hg)));have tH:zH (Below wr.heap.size wr w3):=zh (by rw[u9.o];exact Qi);clear Qi;have Yn:=zh (XE.o.later tH.o);cases RP with
     | error er=>
      obtain⟨u1,u2,u3,u4⟩:=HT.o;have HV:zH (vZ Lo sT er.1 i er.2):=zh (.parse i s ts M er HN.o XE.o.so HS.o CM.o (by omega));have z:((y.e:Int)==0)=false:=beq_eq_false_iff_ne.2 (by omega);have zz:((y.e:Int) != 0)=true:=by simp;omega
      have HE:=zh (zAi u1 u2);clear u1 u2 u3 u4 HT CM;go_quiet (fail);go_upto_region 17 with (fail)
      go_quiet (fail);go_wp2_with (fail);refine bodyPost_ret (v:=.tuple #[.pointer none,.int .i64 y.e,.int .i64 i,.int .i64 y.wh]) (by simp[results,Tryz.results104,go_sem]) rfl ?_;rw[<-Fb.o];refine⟨?_,.inl ⟨y.e,i,y.wh,by rw[HE.o.1,HE.o.2];exact HV.o,rfl⟩⟩;exact aV (aV Yn.o.bel _) _
     | ok rq=>
      obtain⟨t,q⟩:=rq;obtain⟨u1,u2,u3,u4,u5⟩:=HT.o;have u1:y.e=0:=u1;rw[u1] at y2;rw[u3] at y1;by_cases hq:q<s.size
      . have HV:zH (vZ Lo sT 2 i q):=zh (.parse i s ts M (2,q) HN.o XE.o.so HS.o (by rw[CM.o];dsimp only;rw[zP hq]) (by decide:(2:Nat)≠0))
        have zq:(q:Int)<(s.size:Int):=by omega
        have HF:=zh (λn=>gP w0.heap.size pb s y lv (w3.drewN n) (H3.o.1.below (aV (zBr _ w3) n)) 2 q (by omega) (by omega));have YN:eH y 2 q={y with e:=2,wh:=q}:=by unfold eH;rw[zP u1]
        rw[YN] at HF;unfold bJ at HF;clear u1 u2 u3 u4 u5 HT CM hq YN;go_quiet (fail);have TY:zH (Below w0.heap.size w0 (w3.drewN nq)):=zh (aV Yn.o.bel nq);go_upto_region 16 with (have H0:=HF.o nq;clear HF;go_at_call 126;refine H0.mono ?_;clear H0;rintro e' w5 ⟨rfl,g1,g2⟩;have H5:=zh (zAi g1 g2);clear g1 g2)
        obtain⟨y0,y1,y2,y3,y4⟩:=H5.o.1.cells;have lpb:=H5.o.1.lt;go_upto_region 17 with (fail);go_quiet (fail);go_wp2_with (fail);refine bodyPost_ret (v:=.tuple #[.pointer none,.int .i64 2,.int .i64 i,.int .i64 q]) (by simp[results,Tryz.results104,go_sem]) rfl ?_;rw[<-Fb.o];refine⟨?_,.inl ⟨2,i,q,HV.o,rfl⟩⟩;refine aV (TY.o.trans ?_) _;refine H5.o.2.below (B:=w0.heap.size) ?_ ?_ ?_
        . exact Yn.o.bel.size
        . exact H3.o.1.low.2.1
        exact λg hg=>(H3.o.1.low.2.2 g hg).1
      have Ub:zH (fZ s=.ok t):=zh (by rw[CM.o];dsimp only;rw[zN hq])
      have zq:¬ (q:Int)<(s.size:Int):=by omega
      have pj:=zh u4;have Ai:=zh (zAi u1 u2);clear u1 u2 u3 u4 u5 HT CM hq;go_quiet (fail);have xh:zH (eW w0.heap.size pb s y lv (w3.drewN nq)):=zh (H3.o.1.below (aV (zBr _ w3) nq));have VT:zH (BetS Lo sT w0 P i ts M D S (w3.drewN nq)):=zh (Yn.o.later (aV (zBr _ w3) nq));clear y0 y1 y2 y3 y4 lpb Yn tH YI u9 JL;generalize w3.drewN nq=w4 at xh VT ⊢;obtain⟨JQ,cN,td⟩:=bM xh.o.row;obtain⟨_,_,y2,_,y4⟩:=xh.o.cells;rw[Ai.o.1] at y2;have lpb:=xh.o.lt
      obtain⟨aoR,cR,XD⟩:=bM VT.o.pl.rR;obtain⟨aoL,cL,J0⟩:=bM VT.o.pl.lR;obtain⟨aoF,cF,vq⟩:=bM VT.o.pl.fR;have p0:w4.cell? ⟨P,0,none⟩=some S.vR:=by rw[aB _ _ 0 _ _ _ VT.o.cell];rfl
      have p1:w4.cell? ⟨P,1,none⟩=some S.vL:=by rw[aB _ _ 1 _ _ _ VT.o.cell];rfl
      have p2:w4.cell? ⟨P,2,none⟩=some S.vF:=by rw[aB _ _ 2 _ _ _ VT.o.cell];rfl
      have lP:=aA VT.o.cell;have vm:=(mk_begin (B:=w0.heap.size) (N:=y.ns) (lv:=lv) VT.o.pl VT.o.pb ⟨HL.o.2,VT.o.bel.size⟩ xh.o.row (λd hd=>(xh.o.rg d hd).1)).below (zBr _ _).drew;rw[XD,td] at vm;rw[J0,vq] at vm;rw[XD] at p0;rw[J0] at p1;rw[vq] at p2;rw[td] at y4;have D9:=zh vm;have CR:=zh (zAi XD (zAi J0 (zAi vq td)))
      have DA:∀ wx:World,Below w4.heap.size w4 wx->(wx.cell? ⟨pb,4,none⟩=some (.slice JQ y.ns.length cN)/\wx.cell? ⟨P,0,none⟩=some (.slice aoR D.rL.length cR)/\wx.cell? ⟨P,1,none⟩=some (.slice aoL D.last.length cL)/\wx.cell? ⟨P,2,none⟩=some (.slice aoF D.fL.length cF)):=λwx hb=>⟨(aL hb ⟨pb,4,none⟩ lpb).trans y4,(aL hb ⟨P,0,none⟩ lP).trans p0,(aL hb ⟨P,1,none⟩ lP).trans p1,(aL hb ⟨P,2,none⟩ lP).trans p2⟩;have Uj:=zh DA;have Ck:=DA w4 (zBr _ _);clear vm XD J0 vq td DA
      go_upto_region 18 with (fail)
      clear y2;refine wp_region_noPanic ?_;refine cK (λw'=>w'.cell? ⟨pb,4,none⟩=some (.slice JQ y.ns.length cN)/\w'.cell? ⟨P,0,none⟩=some (.slice aoR D.rL.length cR)/\w'.cell? ⟨P,1,none⟩=some (.slice aoL D.last.length cL)/\w'.cell? ⟨P,2,none⟩=some (.slice aoF D.fL.length cF)) 7 (by kernel_rfl) Ck (λHe=> ?_);clear Ck y4 p0 p1 p2;refine aH 0 He ?_;refine aH 1 He ?_;refine aH 2 He ?_;refine aH 3 He ?_;refine aH 4 He ?_;refine dA 5 (λK hK=> ?_);go_simp;refine hK.out _ _ (λ_=>He) ?_;clear hK K;(try simp only[Act.put,lA,lB,lC]);refine dA 6 (λK hK=> ?_);go_simp;refine hK.out _ _ (λ_=>Uj.o _ (((zBr w4.heap.size w4).drew).alloc (zR _) _)) ?_;clear hK K;(try simp only[Act.put,lA,lB,lC]);refine dA 7 (λK hK=> ?_);go_simp;refine hK.out _ _ (λh=>absurd rfl h) ?_;clear hK K He Uj
      (try simp only[Act.put,lA,lB,lC]);refine fK (by kernel_rfl) ?_;refine NoPanic.normal ?_;have Yq:Below w4.heap.size w4 ((w4.alloc (.cells #[.slice JQ y.ns.length cN,.slice aoR D.rL.length cR,.slice aoL D.last.length cL,.slice aoF D.fL.length cF,.bool false] 271)).drew):=((zBr w4.heap.size w4).alloc (zR _) _).drew;have Qe:=zh (VT.o.later Yq);clear Yq lpb lP;have UM:=D9.o
      generalize (w4.alloc (.cells #[.slice JQ y.ns.length cN,.slice aoR D.rL.length cR,.slice aoL D.last.length cL,.slice aoF D.fL.length cF,.bool false] 271)).drew=w5 at UM Qe ⊢;clear D9;obtain⟨mb,JW⟩:∃ mb,w4.heap.size=mb:=⟨_,rfl⟩;rw[JW] at UM ⊢;have EU:=zh UM;clear UM JW;have U9:=CR.o;rw[<-U9.2.2.2] at EU;have CN:zH (kJ {D with on:=false} M):=zh ⟨Qe.o.rel.last,Qe.o.rel.fL,Qe.o.on.symm,Qe.o.rel.len,Qe.o.rel.cL,Qe.o.rel.bd⟩
      have HK:=zh (nC pj.o w0.heap.size mb {D with on:=false} S w5 M EU.o CN.o Qe.o.ok);have NP:=oE t M Qe.o.ok;obtain⟨rt,Dw⟩:=zE (eN t M);rw[<-Dw] at HK NP;have Ue:=zh Dw;clear Dw U9;obtain⟨⟨em,fs,ls⟩,M1⟩:=rt;dsimp only at NP;have Xg:=zh NP;clear NP;unfold bJ at HK
      go_upto_region 20 with (go_at_call 127;refine HK.o.mono ?_;rintro e' v6 ⟨D6,S6,ao,al,co,cl,rfl,g1,g2,g3,g4,g5⟩;have HG:=zh (zAi g1 (zAi g2 (zAi g3 (zAi g4 g5))));clear g1 g2 g3 g4 g5)
      have Ya:=(zBr v6.heap.size v6).alloc (zR _) (.cells #[.bool em,.slice ao fs.length co,.slice al ls.length cl] 273);have CI:=zh (HG.o.1.below Ya);have JM:=zh (kQ (p:=⟨em,fs,ls⟩) HG.o.1 HG.o.2.2.2.1 HG.o.2.2.2.2);have Xx:zH (kJ D6 M1):=zh HG.o.2.1;have Uo:=vE HG.o.2.2.1 (EU.o.notT Qe.o.cell (by decide) (by decide) (by decide) (by decide)) Qe.o.cell
      have Ua:zH ((v6.alloc (.cells #[.bool em,.slice ao fs.length co,.slice al ls.length cl] 273)).heap[P]?=some (.cells #[S.vR,S.vL,S.vF] 262 (0,0))):=zh ((Ya.block P (aA Uo)).trans Uo);have de:Below w0.heap.size w5 v6:=HG.o.2.2.1.below Qe.o.bel.size EU.o.low.2;have vy:zH (Below w0.heap.size w0 (v6.alloc (.cells #[.bool em,.slice ao fs.length co,.slice al ls.length cl] 273))):=zh ((Qe.o.bel.trans de).trans (Ya.mono (zT Qe.o.bel.size de.size)));have JO:=zh Qe.o.so;have CM:=zh Qe.o.p
      have E2:=zh Qe.o.one;clear Uo de Ya HG EU CN VT Qe CR XE xh H3 pj;dsimp only at JM;generalize v6.alloc (.cells #[.bool em,.slice ao fs.length co,.slice al ls.length cl] 273)=w6 at CI JM Ua vy ⊢;generalize v6.heap.size=Q at JM ⊢;obtain⟨aoR6,cR6,DO⟩:=bM CI.o.rR;obtain⟨aoL6,cL6,DN⟩:=bM CI.o.lR;obtain⟨aoF6,cF6,DM⟩:=bM CI.o.fR;obtain⟨_,c1,c2,c3,c4⟩:=CI.o.cells;rw[DO] at c1;rw[DN] at c2;rw[DM] at c3;have lP:=aA Ua.o
      obtain⟨x0,q0,x1,q1,x2,q2⟩:=gB Ua.o (.slice aoR6 D6.rL.length cR6) (.slice aoL6 D6.last.length cL6);have XK:=zh (iM Ua.o (.slice aoR6 D6.rL.length cR6) (.slice aoL6 D6.last.length cL6) (.slice aoF6 D6.fL.length cF6));have CR:=zh (zAi DO (zAi DN DM));have Ty:=zh (aC _ P 2 (.slice aoF6 D6.fL.length cF6) _ _ _ (aC _ P 1 (.slice aoL6 D6.last.length cL6) _ _ _ (aC w6 P 0 (.slice aoR6 D6.rL.length cR6) _ _ _ Ua.o)));clear DO DN DM c4;go_upto_region 21 with (fail)
      clear x0 q0 x1 q1 x2 q2 c1 c2 c3 lP;have NZ:=XK.o;generalize ((w6.setCell ⟨P,0,none⟩ (.slice aoR6 D6.rL.length cR6)).setCell ⟨P,1,none⟩ (.slice aoL6 D6.last.length cL6)).setCell ⟨P,2,none⟩ (.slice aoF6 D6.fL.length cF6)=w7 at NZ Ty ⊢;clear XK;obtain⟨z0,z1,z2,zk,zb⟩:=NZ;have SS:mb≠P:=λe=>by
       have h1:=CI.o.blk;rw[e] at h1;exact absurd (eE h1 Ua.o) (by decide)
      have GL:=(zk mb SS).trans CI.o.blk;have c4:w7.cell? ⟨mb,4,none⟩=some (.bool M1.on):=by rw[aB _ _ 4 _ _ _ GL,<-Xx.o.on];rfl
      have po:=zh (JM.o.oth Ua.o zk);have tT:=zh ((PlR.of_mk CI.o).1.other Ua.o (by decide) zk);have Br:=zh (PlR.of_mk CI.o).2;have um:=zh (vy.o.trans (zb.mono CM.o));clear z0 z1 zk zb GL SS JM CI vy Ua;obtain⟨on1,qq⟩:=zE (M1.on);rw[<-qq] at c4;cases on1 with
      | true=>
       have HV:zH (vZ Lo sT 6 i 0):=zh (.full i s ts M t HN.o JO.o HS.o Ub.o (by rw[<-Ue.o];exact qq.symm));clear qq;go_wp2_with (fail);refine bodyPost_ret (v:=.tuple #[.pointer none,.int .i64 6,.int .i64 i,.int .i64 0]) (by simp[results,Tryz.results104,go_sem]) rfl ?_;rw[<-Fb.o];exact⟨um.o,.inl ⟨6,i,0,HV.o,rfl⟩⟩
      | false=>
       have E3:=zh qq;clear qq;have Q3:D6.fL.length=M1.fL.length:=by rw[Xx.o.fL]
       have QT:0<D6.fL.length:=by rw[Q3];exact zLd E2.o Xg.o.2.2
       have YN:=tT.o.fR;obtain⟨gF,cF,u,eF,lgF,hu,JR⟩:=qE YN QT;rw[CR.o.2.2] at eF;cases eF;have Jk:=tT.o.fli 0 u hu;obtain⟨aou,cu,tD⟩:=Jk.1.form;subst tD;have p2:=z2;obtain⟨_,pq1,pq2⟩:=po.o.cells;dsimp only at pq1 pq2;have lP:=aA Ty.o;have lQ:=aA po.o.b;have Vd:=(zBr w7.heap.size w7).drew;have QG:(D6.fL.getD 0 []).length<=65:=by
        have hm:D6.fL.getD 0 []∈M1.fL:=by
         rw[Xx.o.fL,zLf,zLe (by rw[<-Q3];exact QT)];exact List.getElem_mem _
        exact zT (cZ (Xg.o.1.f.nd _ hm) (Xg.o.1.f.lt _ hm)) Xg.o.1.le
       have P8:fs.length<=65:=zT (cZ Xg.o.2.1.fn Xg.o.2.1.f) Xg.o.1.le;have HK:=zh (jO _ _ _ _ w7.drew (Jk.1.below Vd) (po.o.f.1.below Vd) (by rw[bO];omega) (by rw[bO];dsimp only;omega));rw[<-jX,bO,bO] at HK;dsimp only at HK;have tJ:zH (M1.fL.modify 0 (cY · fs)=D6.fL.set 0 (cY (D6.fL.getD 0 []) fs)):=zh (by rw[Xx.o.fL];exact zbA (by rw[<-Q3];exact QT));obtain⟨J,hJ⟩:=zE (cY (D6.fL.getD 0 []) fs);rw[<-hJ] at HK tJ
       rw[bO] at JR;generalize (D6.fL.getD 0 []).length=nu at HK JR;have IA:=zh QT;clear hJ Q3 YN hu Jk Vd QG P8 z2;go_upto_region 23 with (fail)
       clear c4;refine wp_region_noPanic ?_;refine cK (λw'=>w'.cell? ⟨P,2,none⟩=some (.slice (some ⟨gF,0,none⟩) D6.fL.length cF6)/\w'.cell? ⟨gF,0,none⟩=some (.slice aou nu cu)/\w'.cell? ⟨Q,1,none⟩=some (.slice ao fs.length co)) 10 (by kernel_rfl) ⟨p2,JR,pq1⟩ (λHe=> ?_);refine aH 0 He ?_;refine aH 1 He ?_;refine aH 2 He ?_;refine aH 3 He ?_;refine aH 4 He ?_;refine aH 5 He ?_;refine aH 6 He ?_;refine aH 7 He ?_;refine dA 8 (λK hK=> ?_);go_simp;go_at_call 128;refine HK.o.mono ?_;rintro e w8 ⟨JP,c2,rfl,VL⟩;have hn:pJ w7.heap.size (.slice JP J.length c2) (eX J) w7 w8:=⟨VL.1,VL.2.1,(zBr w7.heap.size w7).drew.trans VL.2.2⟩;clear VL;have Q6:=zAi ((aL hn.2.2 ⟨P,2,none⟩ lP).trans p2) (zAi ((aL hn.2.2 ⟨gF,0,none⟩ lgF).trans JR) ((aL hn.2.2 ⟨Q,1,none⟩ lQ).trans pq1));refine hK.out _ _ (λ_=>Q6) ?_;clear hK K He
       (try simp only[Act.put,lA,lB,lC]);refine aH 9 Q6 ?_;clear Q6;have G3:=tT.o.below hn.2.2;have lgF2:gF<w8.heap.size:=zLd lgF hn.2.2.size;obtain⟨bt,UD⟩:∃ cs,w8.heap[gF]?=some (.cells cs 39 (0,0)):=dK G3.fR (by rw[CR.o.2.2];rfl);have fgF:=aM w8 gF 0 _ _ UD;have cgF2:w8.cell? ⟨gF,0,none⟩=some (.slice aou nu cu):=(aL hn.2.2 ⟨gF,0,none⟩ lgF).trans JR;have PP:=zh hn;have J9:=zh UD;clear hn UD G3;refine dA 10 (λK hK=> ?_);go_simp
       refine hK.out _ _ (λh=>absurd rfl h) ?_;clear hK K;(try simp only[Act.put,lA,lB,lC]);refine fK (by kernel_rfl) ?_;refine NoPanic.normal ?_;have jg:∀ g,g≠gF->(w8.setCell ⟨gF,0,none⟩ (.slice JP J.length c2)).heap[g]?=w8.heap[g]?:=λg hg=>aG _ _ _ _ hg;have FC:∀ {b:Nat} {cs:Array Value} {t:TypeId},w8.heap[b]?=some (.cells cs t (0,0))->t≠39->b≠gF:=λh1 h2 e=>by
        subst e;exact h2 (eE h1 J9.o)
       have MI:=(PP.o.2.2.block P lP).trans Ty.o;have BV:=(PP.o.2.2.block Q lQ).trans po.o.b;have SK:=po.o.l.1.below PP.o.2.2;have XM:zH (zfg w0 P Q al cl ls {D6 with fL:=D6.fL.set 0 J} {S6 with fv:=S6.fv.set 0 (.slice JP J.length c2)} (w8.setCell ⟨gF,0,none⟩ (.slice JP J.length c2))):=zh
        ⟨(tT.o.below PP.o.2.2).setF CR.o.2.2 IA.o PP.o.1 (λg hg e=>by
          have h1:=PP.o.2.1 g hg;have h2:=tT.o.lR.lt g e;omega),Br.o,by
          refine (jg P (FC MI (by decide))).trans ?_;rw[MI,CR.o.1,CR.o.2.1,CR.o.2.2];rfl,by
          have h9:=(jg Q (FC BV (by decide))).trans BV;rw[aB _ _ 2 _ _ _ h9];rfl,aA ((jg Q (FC BV (by decide))).trans BV),⟨_,(jg Q (FC BV (by decide))).trans BV⟩,bW SK J9.o (by decide) jg,λg hg e=>po.o.l.2 g hg (.inr (.inr (.inl e))),
          um.o.trans ((PP.o.2.2.mono um.o.size).trans ⟨rfl,rfl,rfl,by simp[World.setCell],λb hb=>jg b (by
           have:=Br.o.2.2 gF (by rw[CR.o.2.2];rfl);omega)⟩)⟩
       clear jg FC MI BV SK cgF2 fgF lgF2 lgF JR p2 pq1 pq2 lP lQ;generalize w8.setCell ⟨gF,0,none⟩ (.slice JP J.length c2)=w9 at XM ⊢;clear PP J9 tT po Ty um Br;generalize ({S6 with fv:=S6.fv.set 0 (.slice JP J.length c2)}:MS)=S9 at XM;clear QT;go_wp2_with (fail);go_loopw [13] (λs13 wr=>∃ (k:Nat) (D':MD),s13=.int .i64 k/\k<=ls.length/\D'.last=nE (ls.take k) i D6.last/\D'.rL=D6.rL/\D'.fL=D6.fL.set 0 J/\D'.on=D6.on/\zfg w0 P Q al cl ls D' S9 wr) (λs13 _=>ls.length-(RowKit.intOf s13).toNat)
       case atStart=>exact⟨0,{D6 with fL:=D6.fL.set 0 J},rfl,zZ _,rfl,rfl,rfl,rfl,XM.o⟩
       case round=>
        clear XM;obtain⟨k,D',rfl,hk,Xq,jd,VW,Eh,ud⟩:=hrel;have HD:=zh (zAi Xq (zAi jd (zAi VW Eh)));have XM:=zh ud;clear Xq jd VW Eh ud;have S8:=XM.o.q;have lQ:=XM.o.lq;have SP:ls.length<=65:=zT (cZ Xg.o.2.1.ln Xg.o.2.1.l) Xg.o.1.le;by_cases Y1:k<ls.length
        . have zk:(k:Int)<(ls.length:Int):=by omega
          have Kv:=zW k (by omega);obtain⟨ga,cla,e,lga,cga⟩:=sH XM.o.li (i:=k) (by rw[bO];exact Y1);rw[bO] at e;cases e;rw[zar Y1] at cga;have hx:ls.getD k 0<D'.last.length:=by
           rw[HD.o.1,yO,Xx.o.last,Xg.o.1.a];exact Xg.o.2.1.l _ (uF Y1)
          have Ry:zH (nE (ls.take (k+1)) i D6.last=D'.last.set (ls.getD k 0) i):=zh (by rw[oX Y1,zej,HD.o.1]);generalize ls.getD k 0=x at cga hx Ry;obtain⟨gL,cL9,eL,lgL,cgL⟩:=sH XM.o.pl.lR hx;have p1:wr.cell? ⟨P,1,none⟩=some S9.vL:=by rw[aB _ _ 1 _ _ _ XM.o.cell];rfl
          rw[eL] at p1;have lP:=aA XM.o.cell;have zx:(x:Int)<(D'.last.length:Int):=by omega
          obtain⟨bl,Gk⟩:∃ cs,wr.heap[gL]?=some (.cells cs 3 (0,0)):=dK XM.o.pl.lR (by rw[eL];rfl);have fgL:=aM wr gL x _ _ Gk;have tK:=zh (zAi Gk (zAi eL hx));clear Gk eL hx;go_upto_region 27 with (fail)
          refine wp_region_noPanic ?_;refine cK (λw'=>w'.cell? ⟨P,1,none⟩=some (.slice (some ⟨gL,0,none⟩) D'.last.length cL9)/\w'.cell? ⟨Q,2,none⟩=some (.slice (some ⟨ga,0,none⟩) ls.length cl)/\w'.cell? ⟨ga,k,none⟩=some (.int .i64 (x:Nat))) 9 (by kernel_rfl) ⟨p1,S8,cga⟩ (λHe=> ?_);refine aH 0 He ?_;refine aH 1 He ?_;refine aH 2 He ?_;refine aH 3 He ?_;refine aH 4 He ?_;refine aH 5 He ?_;refine aH 6 He ?_;refine aH 7 He ?_;refine aH 8 He ?_;refine dA 9 (λK hK=> ?_);go_simp;refine hK.out _ _ (λh=>absurd rfl h) ?_;clear hK K;(try simp only[Act.put,lA,lB,lC]);refine fK (by kernel_rfl) ?_;refine NoPanic.normal ?_;have JA:=XM.o.pl.setL (x:=(i:Int)) tK.o.2.1 tK.o.2.2;have jg:∀ g,g≠gL->(wr.setCell ⟨gL,x,none⟩ (.int .i64 i)).heap[g]?=wr.heap[g]?:=λg hg=>aG _ _ _ _ hg
          have ti:∀ {b:Nat} {cs:Array Value} {t:TypeId},wr.heap[b]?=some (.cells cs t (0,0))->t≠3->b≠gL:=λh1 h2 e=>by
           subst e;exact h2 (eE h1 tK.o.1)
          have CQ:zH (zfg w0 P Q (some ⟨ga,0,none⟩) cl ls {D' with last:=D'.last.set x i} S9 (wr.setCell ⟨gL,x,none⟩ (.int .i64 i))):=zh (by
           obtain⟨cq,Nz⟩:=XM.o.tq;have OC:=(jg Q (ti Nz (by decide))).trans Nz;refine⟨JA.1,XM.o.pb,(jg P (ti XM.o.cell (by decide))).trans XM.o.cell,?_,aA OC,⟨cq,OC⟩,JA.2 _ _ XM.o.li XM.o.ne,XM.o.ne,XM.o.bel.trans ⟨rfl,rfl,rfl,by simp[World.setCell],λb hb=>jg b (by
            have:=XM.o.pb.2.1 gL (by rw[tK.o.2.1];rfl);omega)⟩⟩
           have h9:=XM.o.q;rw[aB _ _ 2 _ _ _ Nz] at h9;rw[aB _ _ 2 _ _ _ OC];exact h9)
          clear JA jg ti p1 S8 cga cgL fgL lP lQ lga lgL zx;generalize wr.setCell ⟨gL,x,none⟩ (.int .i64 i)=Vi at CQ ⊢;go_wp2_with (fail);go_roundw
          case rel=>exact⟨k+1,{D' with last:=D'.last.set x i},by go_num,by omega,Ry.o.symm,HD.o.2.1,HD.o.2.2.1,HD.o.2.2.2,CQ.o.later (zBr _ _).drew⟩
          case measure=>(simp[zI]<;>omega)
        have zk:¬ (k:Int)<(ls.length:Int):=by omega
        have TI:k=ls.length:=by omega
        have QM:zH (BetS Lo sT w0 P (i+1) (ts++[t]) (M1.fin ⟨em,fs,ls⟩ i) D' S9 wr):=zh (by
         have hf:=Mk.fin_ok Xg.o.1 Xg.o.2.1 i;have uc:=JO.o.next HS.o Ub.o (by rw[<-Ue.o];exact E3.o.symm);rw[<-Ue.o] at uc;have GC:D'.last=nE ls i M1.last:=by rw[HD.o.1,TI,List.take_length,Xx.o.last]
         refine⟨uc,hf.1,E3.o.symm,by rw[hf.2];exact zT E2.o Xg.o.2.2,⟨GC,by rw[HD.o.2.2.1];exact tJ.o.symm,by rw[HD.o.2.2.2,Xx.o.on];rfl,by rw[HD.o.2.1];exact Xx.o.len,by rw[HD.o.2.1];exact Xx.o.cL,by rw[HD.o.2.1];exact Xx.o.bd⟩,XM.o.pl,XM.o.pb,XM.o.cell,XM.o.bel,CM.o⟩)
        clear TI;go_wp2_with (fail);go_roundw
        case rel=>exact⟨i+1,_,_,D',S9,by go_num,by omega,QM.o⟩
        case measure=>(simp[zI]<;>omega)
   have zl:¬ (i:Int)<(sT.length:Int):=by omega
   have Jm:i=sT.length:=by omega
   have JO:zH (kE sT sT.length ts M):=zh (by rw[<-Jm];exact XE.o.so);have QB:=zh (Wq.o HN.o.2 ts M JO.o);have Qz:=ref_laid (rL:=D.rL.map (·.2)) JO.o.run QB.o.spec (by rw[List.length_map];exact XE.o.rel.len) XE.o.rel.cL;rw[<-XE.o.rel.fL,<-XE.o.rel.last] at Qz;have CN:=zh Qz;have Kj:zcx D.fL:=by rw[XE.o.rel.fL];exact XE.o.ok.f
   have tJ:=zh Kj;have am:zH (∀ p∈D.rL,p.2.length<=9223372036854775807):=zh (λp hp=>row_max (XE.o.pl.rr p hp));have YP:=zh XE.o.rel.bd;obtain⟨aoR,cR,XD⟩:=bM XE.o.pl.rR;obtain⟨aoL,cL,J0⟩:=bM XE.o.pl.lR;obtain⟨aoF,cF,vq⟩:=bM XE.o.pl.fR;have p0:wr.cell? ⟨P,0,none⟩=some S.vR:=by rw[aB _ _ 0 _ _ _ XE.o.cell];rfl
   have p1:wr.cell? ⟨P,1,none⟩=some S.vL:=by rw[aB _ _ 1 _ _ _ XE.o.cell];rfl
   have p2:wr.cell? ⟨P,2,none⟩=some S.vF:=by rw[aB _ _ 2 _ _ _ XE.o.cell];rfl
   have lP:=aA XE.o.cell;have Dw:=tab_begin XE.o.pl;rw[XD,J0,vq] at Dw;rw[XD] at p0;rw[J0] at p1;rw[vq] at p2;have Sf:=XE.o.bel.trans (((zBr wr.heap.size wr).alloc (zR _) (.cells #[.slice aoR D.rL.length cR,.slice aoL D.last.length cL,.slice aoF D.fL.length cF,.slice none 0 0,.slice none 0 0,.slice none 0 0,.int .i64 0] 277)).mono XE.o.bel.size);have ul:=zh (zAi Sf XE.o.bel.size);have Ue:=zh Dw;clear Jm Qz Kj XD J0 vq Dw Sf;go_upto_region 29 with (fail)
   generalize wr.alloc (.cells #[.slice aoR D.rL.length cR,.slice aoL D.last.length cL,.slice aoF D.fL.length cF,.slice none 0 0,.slice none 0 0,.slice none 0 0,.int .i64 0] 277)=w1 at Ue ul ⊢;generalize wr.heap.size=tb at Ue ul ⊢;clear p0 p1 p2 lP;have MZ:=ul.o.1.size
   have HK:=zh (rcut_any tb _ _ w1 Ue.o (bB (Lo ts).cL) (λx=>cuts_ref (D:=⟨D.rL,D.last,D.fL,[],[],[],0⟩) CN.o x) (jQ _).1 QB.o.cl (λx hx=>(rE QB.o.rng hx).1) (by have h1:=CN.o.ln;have h2:=CN.o.le;rw[List.length_map] at h1;show D.rL.length<=65;omega) am.o YP.o);unfold bJ at HK;go_upto_region 30 with (go_at_call 129;refine HK.o.mono ?_;rintro e' w2 ⟨rfl,vC,g1,g2⟩;have H2:=zh (zAi g1 g2);clear g1 g2)
   have Wh:=zh (grow_h (D:=⟨D.rL,D.last,D.fL,bB (Lo ts).cL,[],[],0⟩) QB.o CN.o rfl tJ.o am.o);have D2:=zh (rgrow_any tb _ _ w2 H2.o.1 (Lo ts) Wh.o ⟨rfl,rfl,rfl,rfl,rfl,rfl⟩);have YI:zH (Below w0.heap.size w0 w2):=zh (ul.o.1.trans (H2.o.2.below MZ ul.o.2));obtain⟨ml,th⟩:=zE (bU (Lo ts) ((bB (Lo ts).cL).map (bG (Lo ts).cL)) 202 [(1,0)] [] []);cases ml with
   | none=>
    have HV:zH (vZ Lo sT 7 (-1) (-1)):=zh (.states ts M HN.o JO.o th.symm);have HK:zH (Calls Tryz.prog 130 #[bJ tb] w2 λe w'=>e=.returned (.bool false)/\TKp tb w2 w'):=zh (D2.o.mono (by
     rintro e w' ⟨h1,h2⟩;rw[<-th] at h2;exact⟨h2,h1⟩))
    clear D2 th;unfold bJ at HK;go_wp2_with (first|(go_at_call 130;refine HK.o.mono ?_;rintro e' w3 ⟨rfl,g2⟩;have H3:=zh g2;clear g2));refine bodyPost_ret (v:=.tuple #[.pointer none,.int .i64 7,.int .i64 (-1),.int .i64 (-1)]) (by simp[results,Tryz.results104,go_sem]) rfl ?_;rw[<-Fb.o];exact⟨YI.o.trans (H3.o.below YI.o.size ul.o.2),.inl ⟨7,-1,-1,HV.o,rfl⟩⟩
   | some rg=>
    obtain⟨rU,gO⟩:=rg;have LZ:=zh th.symm;have HK:zH (Calls Tryz.prog 130 #[bJ tb] w2 λe w'=>e=.returned (.bool true)/\TKp tb w2 w'/\∃ sE S',pE (Lo ts) ((bB (Lo ts).cL).map (bG (Lo ts).cL)) rU.length sE rU gO/\rU.length=sE.length/\fV tb (jT ⟨D.rL,D.last,D.fL,bB (Lo ts).cL,[],[],0⟩ (Lo ts).cL.length sE gO) S' w'):=zh (D2.o.mono (by
     rintro e w' ⟨h1,h2⟩;rw[<-th] at h2;exact⟨h2.1,h1,h2.2⟩))
    clear D2 th;unfold bJ at HK;go_upto_region 33 with (go_at_call 130;refine HK.o.mono ?_;rintro e' w3 ⟨rfl,g2,sE,S3,g3,g4,g5⟩;have H3:=zh (zAi g2 (zAi g3 (zAi g4 g5)));clear g2 g3 g4 g5)
    have Lz:=zh (bnd_of (D:=jT ⟨D.rL,D.last,D.fL,bB (Lo ts).cL,[],[],0⟩ (Lo ts).cL.length sE gO) H3.o.2.1 H3.o.2.2.1 CN.o rfl rfl rfl (zeL QB.o CN.o) QB.o.cl);have HK:=zh (zfO tb _ S3 w3 H3.o.2.2.2 _ _ _ Lz.o);obtain⟨Z,hZ⟩:=zE (xA ⟨bB (Lo ts).cL,rU,gO,0⟩ rU.length (bB (Lo ts).cL).length (rU.length+2) (List.replicate rU.length 0));rw[<-hZ] at HK;have HZ:=zh hZ;clear hZ;unfold bJ at HK
    go_upto_region 34 with (go_at_call 131;refine HK.o.mono ?_;rintro e' w4 ⟨rfl,g1⟩;have Dt:=H3.o.2.2.2.below g1;have c46:=Dt.cells.2.2.2.2.2.2;have f46:=aM w4 tb 6 _ _ Dt.blk;have H4:=zh (zAi g1 Dt);clear g1 Dt)
    have jz:=zh (H4.o.2.setB Z);have Qi:=YI.o.trans (H3.o.1.below YI.o.size ul.o.2);have VT:zH (Below w0.heap.size w0 (w4.setCell ⟨tb,6,none⟩ (.int .i64 Z))):=zh ((Qi.trans (H4.o.1.mono Qi.size)).trans ⟨rfl,rfl,rfl,by simp[World.setCell],λb hb=>aG _ _ _ _ (show b≠tb by have:=ul.o.2;omega)⟩);clear c46 f46 Qi;generalize w4.setCell ⟨tb,6,none⟩ (.int .i64 Z)=w5 at jz VT ⊢;go_wp2_with (fail)
    refine bodyPost_ret (v:=.tuple #[bJ tb,.int .i64 0,.int .i64 0,.int .i64 0]) (by simp[results,Tryz.results104,go_sem,bJ]) rfl ?_;rw[<-Fb.o];exact⟨VT.o,.inr ⟨tb,ts,M,rU,gO,sE,_,S3,HN.o,JO.o,LZ.o,H3.o.2.1,H3.o.2.2.1,CN.o,rfl,rfl,rfl,HZ.o,jz.o,ul.o.2,rfl⟩⟩
theorem zeg (h:uT ts 0 mk0=some M):qQ ts<=64:=by
 obtain⟨a1,_,_,a4,_⟩:=qU ts 0 mk0 M zc7 rfl (by decide) h;have h1:=a1.le;have e:mk0.fL.length=1:=rfl;omega
theorem so_good (h:kE sT n ts M) (hn:n<=sT.length):∀ t∈ts,gY 60 t:=λt ht=>by
 obtain⟨j,hj⟩:=List.mem_iff_getElem?.1 ht;have Yb:=(List.getElem?_eq_some_iff.1 hj).1;have Hg:=h.len;obtain⟨s,hs⟩:=zG sT j (by omega);obtain⟨t2,h1,h2⟩:=h.parse j s (by omega) hs;rw[hj] at h1;cases h1;exact zbC (h.small s (zM hs)) h2
theorem zd4:∀ {ts:List aJ} {t:aJ},t∈ts->eU t<=qQ ts
 | u::ts,t,h=>by
  rw[qQ]
  rcases List.mem_cons.1 h with rfl|h
  . omega
  have:=zd4 h;omega
theorem zdM {K:Nat}:∀ {ts:List aJ},(∀ t∈ts,jL t<=K)->mO ts<=ts.length*(K+1)
 | [],_=>by simp[mO]
 | t::ts,h=>by
  have h1:=h t (by simp);have h2:=zdM (ts:=ts) (λu hu=>h u (by simp[hu]));rw[mO,List.length_cons,Nat.succ_mul];omega
theorem zey:∀ {cL:List (List (Int×Int))},(∀ c∈cL,c.length<=62)->(cL.flatMap bN).length<=cL.length*124
 | [],_=>by simp
 | c::cL,h=>by
  have h1:=h c (by simp);have h2:=zey (cL:=cL) (λu hu=>h u (by simp[hu]));have h3:(bN c).length<=2*c.length:=by
   unfold bN
   induction c with
   | nil=>simp
   | cons r c ih=>
    have:=ih (λc2 Je=>by
     rcases List.mem_cons.1 Je with e|e
     . subst e
       have:=h (r::c2) (by simp);simp only[List.length_cons] at this;omega
     exact h c2 (by simp[e])) (by simp only[List.length_cons] at h1;omega)
    rw[List.flatMap_cons,zLn,List.length_cons];split<;>simp only[List.length_cons,List.length_nil]<;>omega
  rw[List.flatMap_cons,zLn,List.length_cons,Nat.succ_mul];omega
theorem zaI:∀ (ts:List aJ),(ts.flatMap iZ).length=qQ ts
 | []=>rfl
 | t::ts=>by rw[List.flatMap_cons,zLn,nO,zaI ts,qQ]
structure zeo (ts:List aJ):Prop where
 pl:qQ ts<=64
 cst:mO ts<=1000000
 rng:∀ c∈ts.flatMap iZ,gA c
 cU:(eJ ([]::ts.flatMap iZ)).length<=50000
theorem zav (h:kE sT sT.length ts M) (h8:sT.length<=8):zeo ts:=by
 have hg:=so_good h (zR _);have xp:=zeg h.run;have hc:∀ c∈ts.flatMap iZ,GoodC c:=λc hc=>by
  obtain⟨t,ht,Eg⟩:=List.mem_flatMap.1 hc;exact (hg t ht).1 c Eg
 refine⟨xp,?_,λc h=>(hc c h).1,?_⟩
 . have h1:mO ts<=ts.length*(5*60*64+1):=zdM λt ht=>by
    have h2:=(hg t ht).2.1;have h3:=zd4 ht;exact zT h2 (Nat.mul_le_mul_left _ (by omega))
   have h4:ts.length<=8:=by rw[h.len];exact h8
   omega
 have h1:=zey (cL:=[]::ts.flatMap iZ) (λc XA=>by
  rcases List.mem_cons.1 XA with rfl|XA
  . simp
  exact (hc c XA).2)
 unfold eJ;rw[zLn];have h2:bX.length=6:=rfl;have h3:([]::ts.flatMap iZ).length=qQ ts+1:=by rw[List.length_cons,zaI]
 rw[h3] at h1;have h4:(qQ ts+1)*124<=65*124:=Nat.mul_le_mul_right _ (by omega);omega
theorem ready_lay (h:zeo ts):∃ f s2 L,fX f ts 0 jF jG=some (s2,L):=by
 obtain⟨s2,L,yy⟩:=zcc (f:=mO ts*(mO ts+2)+1) (M:=mO ts) (D:=mO ts) (zR _) ts 0 jF jG (by decide) (by show 1+_<=65;have:=h.pl;omega) (λk j hj=>by simp[bC,jF] at hj) (by show 0+_<=_;omega) (λk=>by simp[bC,jF]);exact⟨_,s2,L,yy⟩
theorem cutsP_len (cL:List (List (Int×Int))):(bB cL).length<=(eJ cL).length:=
 qR _ _ (yI (jQ _).1) λx hx=>(zao cL x).1 hx
theorem lay_ok (h:zeo ts) (h8:ts.length<=8) {f:Nat} {s2:bA} (hr:fX f ts 0 jF jG=some (s2,L)):LoOk L ts:=by
 obtain⟨hS,_⟩:=laid hr;refine⟨hS,λc hc=> ?_,?_,h8⟩
 . rw[hS.cL] at hc
   rcases List.mem_cons.1 hc with rfl|hc
   . intro r hr;cases hr
   exact h.rng c hc
 rw[hS.cL]
 exact zT (cutsP_len _) h.cU
open Classical in
noncomputable def LoC (ts:List aJ):gK:=if h:∃ L f s2,fX f ts 0 jF jG=some (s2,L) then Classical.choose h else⟨[],[],[]⟩
theorem zcd (h:zeo ts):∃ f s2,fX f ts 0 jF jG=some (s2,LoC ts):=by
 obtain⟨f,s2,L,hr⟩:=ready_lay h;have hx:∃ L f s2,fX f ts 0 jF jG=some (s2,L):=⟨L,f,s2,hr⟩;unfold LoC;rw[dif_pos hx];exact Classical.choose_spec hx
theorem loC_ok (h8:sT.length<=8):∀ ts M,kE sT sT.length ts M->LoOk (LoC ts) ts:=λts M h=>by
 have hr:=zav h h8;obtain⟨f,s2,yy⟩:=zcd hr;exact lay_ok hr (by rw[h.len];exact h8) yy
theorem so_cst (h:kE sT n ts M) (hn:n<=sT.length) (h8:sT.length<=8):mO ts<=200000:=by
 have hg:=so_good h hn;have xp:=zeg h.run;have h1:mO ts<=ts.length*(5*60*64+1):=zdM λt ht=>by
  have h2:=(hg t ht).2.1;have h3:=zd4 ht;exact zT h2 (Nat.mul_le_mul_left _ (by omega))
 have h4:ts.length<=8:=by rw[h.len];omega
 omega
theorem so_laid (h:kE sT n ts M) (hn:n<=sT.length) (h8:sT.length<=8) {R:oB}:
 ∃ f s2 L,mS s2/\s2.cL.length=M.fL.length/\s2.cL.length<=65/\(∀ k,(bC s2.kN k).length<=200000)/\(pY f sT R n s2 L->pY f sT R 0 jF jG):=by
 have hc:=so_cst h hn h8;have xp:=zeg h.run;obtain⟨s2,L,yy⟩:=zcc (f:=mO ts*(mO ts+2)+1) (M:=mO ts) (D:=mO ts) (zR _) ts 0 jF jG (by decide) (by show 1+_<=65;omega) (λk j hj=>by simp[bC,jF] at hj) (by show 0+_<=_;omega) (λk=>by simp[bC,jF]);obtain⟨_,_,hk,hd,hl⟩:=laid yy;obtain⟨_,_,_,a4,_⟩:=qU ts 0 mk0 M zc7 rfl (by decide) h.run;have e:mk0.fL.length=1:=rfl;have hS:mS s2:=⟨λk=>zT (hd k) (by omega),by omega,by omega⟩
 refine⟨_,s2,L,hS,by omega,by omega,λk=>zT (hd k) hc,λhv=>zcb ts 0 jF jG s2 L yy (λj t hj=> ?_) hS (by rw[Nat.zero_add,h.len];exact hv)⟩;have Yb:=kI hj;have Hg:=h.len;obtain⟨str,hs⟩:=zG sT j (by omega);obtain⟨t2,h1,h2⟩:=h.parse j str (by omega) hs;rw[hj] at h1;cases h1;exact⟨str,by rw[Nat.zero_add];exact hs,h2⟩
theorem lay_parse {er:jU} (h8:sT.length<=8) (hf:kE sT i ts M) (hs:sT[i]?=some s) (he:fZ s=.error er):
 ∃ f,pY f sT (.err er.1 i er.2) 0 jF jG:=by
 have hi:=kI hs;obtain⟨f,s2,L,_,_,_,_,hv⟩:=so_laid (R:=.err er.1 i er.2) hf (by omega) h8;exact⟨f,hv (.parse hs (zeq (hf.small s (zM hs))) he rfl)⟩
theorem lay_full {t:aJ} (h8:sT.length<=8) (hf:kE sT i ts M) (hs:sT[i]?=some s) (ht:fZ s=.ok t) (ho:(eN t M).2.on=true):
 ∃ f,pY f sT (.err 6 i 0) 0 jF jG:=by
 have hi:=kI hs;obtain⟨f,s2,L,_,h1,h2,h3,hv⟩:=so_laid (R:=.err 6 i 0) hf (by omega) h8;obtain⟨a1,a2,_,a4,_⟩:=qU ts 0 mk0 M zc7 rfl (by decide) hf.run;have Nn:65<s2.cL.length+eU t:=by
  rcases zLg 65 (M.fL.length+eU t) with h|h
  . omega
  have:=(nW t M a1 a2 h).on
  rw[ho] at this;cases this
 have hg:=(zbC (hf.small s (zM hs)) ht).2.2 s2.cL.length h2;have qf:5*60*(66-s2.cL.length)<=5*60*66:=Nat.mul_le_mul_left _ (by omega);refine⟨f,hv (.full hs ht (layT_none (s:=s2.push ⟨[],0,false⟩) h2 Nn) ⟨h2,λk=> ?_⟩ rfl)⟩;have h4:=h3 k;have h5:(bC (s2.push ⟨[],0,false⟩).kN k).length<=(bC s2.kN k).length:=by
  show (bC (s2.kN++[⟨[],0,false⟩]) k).length<=_
  rcases zLg k s2.kN.length with h|h
  . unfold bC;rw[zGl h];exact zR _
  unfold bC
  rw[zGr h]
  rcases Nat.eq_zero_or_pos (k-s2.kN.length) with e|e
  . rw[e];simp
  rw[zGn (by simp;omega)];simp
 omega
theorem lay_all (h8:sT.length<=8) (hf:kE sT sT.length ts M):∃ f s2,fX f ts 0 jF jG=some (s2,LoC ts)/\mS s2/\pY f sT (.ok s2 (LoC ts)) 0 jF jG:=by
 have hr:=zav hf h8;obtain⟨f,s2,yy⟩:=zcd hr;obtain⟨_,_,hk,hd,hl⟩:=laid yy;have hc:=hr.cst;have hp:=hr.pl;have hS:mS s2:=⟨λk=>zT (hd k) (by omega),by omega,by omega⟩;refine⟨f,s2,yy,hS,zcb ts 0 jF jG s2 _ yy (λj t hj=> ?_) hS (.done (by rw[Nat.zero_add,hf.len]) rfl)⟩;have Yb:=kI hj;have Hg:=hf.len;obtain⟨str,hs⟩:=zG sT j (by omega);obtain⟨t2,h1,h2⟩:=hf.parse j str (by omega) hs;rw[hj] at h1;cases h1
 exact⟨str,by rw[Nat.zero_add];exact hs,h2⟩
inductive GRes where
 | err (e:Nat) (i k:Int)
 | done (ts:List aJ) (M:Mk)
def goV:List ByteArray->Nat->List aJ->Mk->GRes
 | [],_,ts,M=>.done ts M
 | s::r,i,ts,M=>
  match fZ s with
  | .error er=>.err er.1 i er.2
  | .ok t=>if (eN t M).2.on=true then .err 6 i 0 else goV r (i+1) (ts++[t]) ((eN t M).2.fin (eN t M).1 i)
inductive VRes where
 | err (e:Nat) (i k:Int)
 | ok (ts:List aJ) (rU:List Int) (gO:List (List Int))
noncomputable def verP (sT:List ByteArray):VRes:=
 if sT.length<1\/8<sT.length then .err 1 (-1) (-1)
 else match sT.findIdx? (λs=>decide (60<s.size)) with
  | some i=>.err 1 i 0
  | none=>match goV sT 0 [] mk0 with
   | .err e i k=>.err e i k
   | .done ts _=>match bU (LoC ts) ((bB (LoC ts).cL).map (bG (LoC ts).cL)) 202 [(1,0)] [] [] with
    | none=>.err 7 (-1) (-1)
    | some rg=>.ok ts rg.1 rg.2
theorem goV_run:∀ (ts:List aJ) (l:List ByteArray) (i:Nat) (ts0:List aJ) (M M2:Mk),uT ts i M=some M2->(∀ (j:Nat) (t:aJ),ts[j]?=some t->∃ s,l[j]?=some s/\fZ s=.ok t)->
 goV l i ts0 M=goV (l.drop ts.length) (i+ts.length) (ts0++ts) M2
 | [],l,i,ts0,M,M2,h,_=>by
  rw[uT] at h;cases h;simp
 | t::ts,l,i,ts0,M,M2,h,hp=>by
  rw[uT] at h;split at h
  . cases h
  rename_i qq
  obtain⟨s,hs,ht⟩:=hp 0 t rfl;cases l with
  | nil=>cases hs
  | cons u l=>
   cases hs;rw[goV,ht];dsimp only;rw[zN qq,goV_run ts l (i+1) (ts0++[t]) _ _ h (λj t2 hj=>by
    obtain⟨s2,h1,h2⟩:=hp (j+1) t2 hj;exact⟨s2,h1,h2⟩)]
   rw[List.length_cons,List.drop_succ_cons,List.append_assoc,Nat.add_assoc,Nat.add_comm 1 ts.length];rfl
section
variable {sT:List ByteArray} {i:Nat} {ts:List aJ} {M:Mk}
theorem ze9 (h:kE sT i ts M) (hi:i<=sT.length):goV sT 0 [] mk0=goV (sT.drop i) i ts M:=by
 have Hg:=h.len;have e:=goV_run ts sT 0 [] mk0 M h.run (λj t hj=>by
  have Yb:=kI hj;obtain⟨s,hs⟩:=zG sT j (by omega);obtain⟨t2,h1,h2⟩:=h.parse j s (by omega) hs;rw[hj] at h1;cases h1;exact⟨s,hs,h2⟩)
 rw[e,Hg,Nat.zero_add,List.nil_append]
theorem zeC {α:Type} {l:List α} {x:α} (h:l[i]?=some x):l.drop i=x::l.drop (i+1):=by
 have hi:=kI h;rw[List.drop_eq_getElem_cons hi];congr 1;rw[zLe hi] at h;exact zO h
end
theorem zct (h:∀ s∈sT,s.size<=60):sT.findIdx? (λs=>decide (60<s.size))=none:=by
 rw[List.findIdx?_eq_none_iff];intro x hx;have:=h x hx;simp;omega
theorem ver_of {e:Nat} {i k:Int} (h:vZ LoC sT e i k):verP sT=.err e i k:=by
 unfold verP;cases h with
 | count h=>rw[zP h]
 | size i s h hs hb hf=>
  rw[zN (by omega)];have hi:=kI hs;have e:sT.findIdx? (λs=>decide (60<s.size))=some i:=by
   rw[List.findIdx?_eq_some_iff_getElem];rw[zLe hi] at hs;refine⟨hi,by rw[zO hs];simpa using hb,λj hj=> ?_⟩;have:=hf j sT[j] hj (zLe (by omega));simp;omega
  rw[e]
 | parse i s ts M er h hf hs he h0=>
  rw[zN (by omega),zct hf.small];dsimp only;rw[ze9 hf (by have:=kI hs;omega),zeC hs,goV,he]
 | full i s ts M t h hf hs ht ho=>
  rw[zN (by omega),zct hf.small];dsimp only;rw[ze9 hf (by have:=kI hs;omega),zeC hs,goV,ht];dsimp only;rw[zP ho]
 | states ts M h hf hm=>
  rw[zN (by omega),zct hf.small];dsimp only;rw[ze9 hf (zR _),List.drop_eq_nil_of_le (zR _),goV];dsimp only;rw[hm]
theorem ver_ok (h:1<=sT.length/\sT.length<=8) (hf:kE sT sT.length ts M)
 (hm:bU (LoC ts) ((bB (LoC ts).cL).map (bG (LoC ts).cL)) 202 [(1,0)] [] []=some (rU,gO)):verP sT=.ok ts rU gO:=by
 unfold verP;rw[zN (by omega),zct hf.small];dsimp only;rw[ze9 hf (zR _),List.drop_eq_nil_of_le (zR _),goV];dsimp only;rw[hm]
