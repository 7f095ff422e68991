/- Part of a proof. No condition. -/
import Derived.Test.YtmfnmkccbldfpaaGreatDoorS45
import Derived.Test.YtmfnmkccbldfpaaGreatDoorS51
set_option linter.unusedVariables false
set_option linter.unusedSimpArgs false
set_option maxRecDepth 100000
set_option maxHeartbeats 16000000
namespace Go.Proofs.YtmfnmkccbldfpaaGreatDoor
open Go.RowKit Go.Lib Tryz
theorem zzCu {p:Prop} (h:p:=by
 rw[zN zo,zeN hf.small];dsimp only;rw[zh7 hf bR,List.drop_eq_nil_of_le bR,goV]
 grind):p:=h
theorem zzBF {p:Prop} (h:p:=by simp[results,results18,go_sem]):p:=h
variable {n i:Nat} {v:Value} {sT:List η} {ts:List aL} {M:Mk} {s:η} {L:iT} {rU:List Int} {gO:List (List Int)} {D:TD} {w w':ω} {S:MS}
structure PlR (S:MS) (D:MD) (w:ω):Prop where
 rR:w.r 190 1 S.vR (I D.rL) (D.rL.map (·.1))
 rr:∀ p∈D.rL,w.r 196 2 p.1 (I p.2) (fW p.2)
 lR:dA w S.vL D.last
 fR:w.r 24 1 S.vF (I D.fL) S.fv
 fli:∀ (i:Nat) (v:Value),S.fv[i]?=some v->dA w v (gE (χ D.fL i []))/\∀ g,β v=some g->β S.vL≠some g
def PlB (B:Nat) (S:MS):Prop:=(∀ g,β S.vR=some g->B<=g)/\(∀ g,β S.vL=some g->B<=g)/\∀ g,β S.vF=some g->B<=g
section
variable {B pb A:Nat} {N:List Nd} {nl lv:Value} {s:η} {y:Pr} {D:MD} {S:MS} {w w':ω} {cs:Array Value}
theorem PlR.of_mk {mb:Nat} (h:nZ B mb N nl D S w):PlR S D w/\PlB B S:=
 ⟨⟨h.rR,λp hp=>(h.rr p hp).1,h.lR,h.fR,λi v hv=>⟨(h.fli i v hv).1,λg hg e=>(h.fli i v hv).2 g hg (.inr (.inr (.inl e)))⟩⟩,λg hg=>h.low.2 g (.inr (.inl hg)),λg hg=>h.low.2 g (.inr (.inr (.inl hg))),λg hg=>h.low.2 g (.inr (.inr (.inr hg)))⟩
theorem PlR.below (h:PlR S D w) (hb:w.u w'):PlR S D w':=
 ⟨aN h.rR hb,λp hp=>aN (h.rr p hp) hb,h.lR.below hb,aN h.fR hb,λi v hv=>⟨(h.fli i v hv).1.below hb,(h.fli i v hv).2⟩⟩
theorem PlR.other {t:TypeId} (h:PlR S D w) (hA:w.h A cs t) (ht:t≠190/\t≠196/\t≠3/\t≠24) (hk:∀ g,g≠A->w'.e w g):PlR S D w':=
 ⟨dZ h.rR hA ht.1.symm hk,λp hp=>dZ (h.rr p hp) hA ht.2.1.symm hk,dZ h.lR hA ht.2.2.1.symm hk,dZ h.fR hA ht.2.2.2.symm hk,λi v hv=>⟨dZ (h.fli i v hv).1 hA ht.2.2.1.symm hk,(h.fli i v hv).2⟩⟩
theorem uO {e f:TypeId} {m size size2:Nat} {u:Value} {xs ys:ζ} (h:w.r e size u n xs) (k:w.r f size2 v m ys) (he:e≠f):∀ g,β u=some g->β v≠some g:=λg hg e2=>by
 grind [dE]
theorem mk_begin (h:PlR S D w) (hB:PlB B S) (Sh:0<B/\B<=w.t) (hn:w.r 192 5 lv (I N) (iW N)) (hr:∀ d∈N,w.r 196 2 d.r (I d.rl) (fW d.rl)):
 nZ B w.t N lv {D with on:=false} S (κ w (Ω #[lv,S.vR,S.vL,S.vF,φ false] 110)):=by
 have hb:=(zBr w.t w).alloc bR (Ω #[lv,S.vR,S.vL,S.vF,φ false] 110);have key:∀ {e:TypeId} {size n:Nat} {u:Value} {xs:ζ},w.r e size u n xs->e≠190->e≠24->(∀ g,β u=some g->β S.vL≠some g)->∀ g,β u=some g->¬ Mut w.t S g:=λhu h1 h2 h3 g hg hm=>by
  rcases hm with rfl|e|e|e
  . exact Nat.lt_irrefl _ (eE hu _ hg)
  . exact uO hu h.rR h1 g hg e
  . grind
  exact uO hu h.fR h2 g hg e
 have hl:=h.lR;unfold dA at hl
 refine⟨bA _ _ _ rfl,aN hn hb,key hn zd zd (uO hn hl zd),λd hd=>⟨aN (hr d hd) hb,key (hr d hd) zd zd (uO (hr d hd) hl zd)⟩,aN h.rR hb,λp hp=>⟨aN (h.rr p hp) hb,key (h.rr p hp) zd zd (uO (h.rr p hp) hl zd)⟩,h.lR.below hb,aN h.fR hb,λi v hv=>⟨(h.fli i v hv).1.below hb,key (h.fli i v hv).1 zd zd (h.fli i v hv).2⟩,⟨λe=>Nat.lt_irrefl _ (eE h.rR _ e),λe=>Nat.lt_irrefl _ (eE hl _ e),λe=>Nat.lt_irrefl _ (eE h.fR _ e)⟩,λg hg=>⟨uO h.rR hl zd g hg,uO h.rR h.fR zd g hg⟩,uO hl h.fR zd,Sh.1,λb hb=> ?_⟩
 rcases hb with rfl|e|e|e
 . omega
 . exact hB.1 b e
 . exact hB.2.1 b e
 exact hB.2.2 b e
theorem PlR.setF (h:PlR S D w) {gF cap:Nat} {l:ο} (Ke:S.vF=σ gF (I D.fL) cap) (hi:i<I D.fL) (hl:dA w v (gE l)) (qg:∀ g,β v=some g->β S.vL≠some g):
 PlR {S with fv:=S.fv.set i v} {D with fL:=D.fL.set i l} (ς w (gF.p i) v):=by
 have Do:∃ cs,w.h gF cs 24:=dE h.fR (by rw[Ke];rfl);obtain⟨cs,YA⟩:=Do;have hk:∀ g,g≠gF->(ς w (gF.p i) v).e w g:=λg hg=>aD _ _ _ _ hg;have:I S.fv=I D.fL:=by have:=h.fR.1;omega
 have xj:∀ {u:Value} {l:List Int},dA w u l->dA (ς w (gF.p i) v) u l:=λhu=>dZ hu YA zd hk;refine⟨dZ h.rR YA zd hk,λp hp=>dZ (h.rr p hp) YA zd hk,xj h.lR,?_,λj u hu=> ?_⟩
 . have hr:=h.fR
   rw[Ke] at hr;obtain⟨r1,r2|⟨g',xq,X0,hv,hb,hg,nv,y7,Z2,XV⟩⟩:=hr
   . omega
   exact zzA9
 have ff:(S.fv.set i v)[j]?=some u:=hu
 show dA _ u (gE (χ (D.fL.set i l) j []))/\_;by_cases KY:i=j
 . grind
 rw[List.getElem?_set_ne KY] at ff
 have e:χ (D.fL.set i l) j []=χ D.fL j []:=by rw[zLf,List.getElem?_set_ne KY,<-zLf]
 rw[e];exact⟨xj (h.fli j u ff).1,(h.fli j u ff).2⟩
theorem PlR.setL (h:PlR S D w) {gL cap:Nat} {x:Int} (Td:S.vL=σ gL (I D.last) cap) (hi:i<I D.last):
 PlR S {D with last:=D.last.set i x} (ς w (gL.p i) (ι x))/\(∀ (v:Value) (l:List Int),dA w v l->(∀ g,β v=some g->β S.vL≠some g)->dA (ς w (gL.p i) (ι x)) v l):=by
 have hl:=h.lR;unfold dA at hl;have ot:∃ cs,w.h gL cs 3:=dE hl (by rw[Td];rfl);obtain⟨cs,YA⟩:=ot;have hk:∀ g,g≠gL->(ς w (gL.p i) (ι x)).e w g:=λg hg=>aD _ _ _ _ hg;have xj:∀ (v:Value) (l:List Int),dA w v l->(∀ g,β v=some g->β S.vL≠some g)->dA (ς w (gL.p i) (ι x)) v l:=λv l hv hn=>aU hv λg hg=>hk g λe=>hn g hg (by rw[Td,e];rfl)
 refine⟨⟨dZ h.rR YA zd hk,λp hp=>dZ (h.rr p hp) YA zd hk,?_,dZ h.fR YA zd hk,λj u hu=>⟨xj _ _ (h.fli j u hu).1 (h.fli j u hu).2,(h.fli j u hu).2⟩⟩,xj⟩;rw[Td] at hl;obtain⟨r1,r2|⟨g',xq,X0,hv,hb,hg,nv,y7,Z2,XV⟩⟩:=hl
 . omega
 cases hv
 show dA _ S.vL (D.last.set i x);unfold dA;rw[Td,List.length_set];have e:dP (D.last.set i x)=(dP D.last).set i (ι x):=by unfold dP;rw[List.map_set]
 rw[e];refine⟨zg,.inr ⟨gL,cap,_,rfl,hb,aB w gL i _ _ _ _ hg,nv,y7,zg,?_⟩⟩
 grind [List.take_set]
theorem tab_begin (h:PlR S D w):gW w.t ⟨D.rL,D.last,D.fL,[],[],[],0⟩ ⟨S.vR,S.vL,S.vF,ν,ν,ν,S.fv,[],[]⟩ (κ w (Ω #[S.vR,S.vL,S.vF,ν,ν,ν,ι 0] 116)):=by
 have hp:=h.below ((zBr w.t w).alloc bR (Ω #[S.vR,S.vL,S.vF,ν,ν,ν,ι 0] 116));exact⟨bA _ _ _ rfl,hp.rR,hp.rr,hp.lR,hp.fR,λi v hv=>(hp.fli i v hv).1,dA.nil _,World.ownsRow_nil _ _ _ _,λi v hv=>zg,World.ownsRow_nil _ _ _ _,λi v hv=>zg,λg hg=>(by cases hg),λg hg=>(by cases hg)⟩
end
theorem zfR (t:aL):∀ (ts:List aL) (i:Nat) (M M2:Mk),runR ts i M=some M2->runR (ts++[t]) i M=if (fP t M2).2.on=true then none else some ((fP t M2).2.fin (fP t M2).1 (i+I ts))
 | [],i,M,M2,h=>by
  grind [runR]
 | u::ts,i,M,M2,h=>by
  rw[runR] at h;split at h
  . cases h
  rename_i Qr
  rw[List.cons_append,runR,zN Qr,zfR t ts _ _ _ h]
  grind
structure mQ (sT:List η) (i:Nat) (ts:List aL) (M:Mk):Prop where
 len:I ts=i
 parse:∀ (j:Nat) (s:η),j<i->sT[j]?=some s->∃ t,ts[j]?=some t/\iE s=.ok t
 run:runR ts 0 mk0=some M
 small:∀ s∈sT,s.size<=60
inductive VerC (Lo:List aL->iT) (sT:List η):Nat->Int->Int->Prop where
 | count (h:I sT<1\/8<I sT):VerC Lo sT 1 (-1) (-1)
 | size (i:Nat) (s:η) (h:1<=I sT/\I sT<=8) (hs:sT[i]?=some s) (hb:60<s.size) (hf:∀ (j:Nat) (u:η),j<i->sT[j]?=some u->u.size<=60):VerC Lo sT 1 i 0
 | parse (i:Nat) (s:η) (ts:List aL) (M:Mk) (er:mP) (h:1<=I sT/\I sT<=8) (hf:mQ sT i ts M) (hs:sT[i]?=some s) (he:iE s=.error er) (h0:er.1≠0):VerC Lo sT er.1 i er.2
 | full (i:Nat) (s:η) (ts:List aL) (M:Mk) (t:aL) (h:1<=I sT/\I sT<=8) (hf:mQ sT i ts M) (hs:sT[i]?=some s) (ht:iE s=.ok t) (ho:(fP t M).2.on=true):VerC Lo sT 6 i 0
 | states (ts:List aL) (M:Mk) (h:1<=I sT/\I sT<=8) (hf:mQ sT (I sT) ts M) (hm:cO (Lo ts) ((bG (Lo ts).cL).map (bP (Lo ts).cL)) 202 [(1,0)] [] []=none):VerC Lo sT 7 (-1) (-1)
theorem mQ.next {t:aL} (h:mQ sT i ts M) (hs:sT[i]?=some s) (ht:iE s=.ok t) (ho:(fP t M).2.on=false):mQ sT (i+1) (ts++[t]) ((fP t M).2.fin (fP t M).1 i):=by
 refine⟨by simp[h.len],λj u hj hu=> ?_,?_,h.small⟩
 . by_cases e:j=i
   . subst e
     rw[hs] at hu;cases hu;exact⟨t,by rw[<-h.len];simp,ht⟩
   obtain⟨t2,h1,h2⟩:=h.parse j u zo hu
   grind
 rw[zfR t ts 0 mk0 M h.run,zN zg,Nat.zero_add,h.len]
theorem zfB {last:List Int} (h:∀ k,-1<=χ last k (-1)/\χ last k (-1)<=1000):∀ (l:ο) (b:Int),-1<=b/\b<=1000-> -1<=l.foldl (kK last) b/\l.foldl (kK last) b<=1000
 | [],b,hb=>hb
 | x::l,b,hb=>by
  refine zfB h l (kK last b x) ?_
  grind [kK]
theorem wid_valid {c:Int} (h:cW c=true):widR c=iH c/\1<=iH c/\iH c<=4:=by
 grind [eW,widR,iH]
theorem go_cell {sE:List aZ} (hm:sV L ((bG L.cL).map (bP L.cL)) sE rU gO) (hl:I rU=I sE) (i k:Nat):
 χ (χ gO i []) k (-1)= -1\/∃ (s:aZ) (j:Nat),sE[i]?=some s/\k<I (bG L.cL)/\sE[j]?=some (yK L s (χ (bG L.cL) k 0))/\yK L s (χ (bG L.cL) k 0)≠(0,0)/\χ (χ gO i []) k (-1)=(j:Int):=by
 rcases zLg i (I sE) with hi|hi
 . obtain⟨s,hs⟩:=zG sE i hi
   obtain⟨r,row,h1,h2,h3,h4,h5⟩:=hm.row i s hs zo;have hg:χ gO i []=row:=by rw[zLf,h2];rfl
   rw[hg];rw[List.length_map] at h4
   rcases zLg k (I (bG L.cL)) with hk|hk
   . obtain⟨x,h6,h7⟩:=h5 k (bP L.cL (χ (bG L.cL) k 0)) (by
      grind)
     have hx:χ row k (-1)=x:=by rw[zLf,h6];rfl
     rw[hx];by_cases h0:yK L s (χ (bG L.cL) k 0)=(0,0)
     . exact .inl (h7.1 h0)
     obtain⟨j,h8,h9⟩:=h7.2 h0
     exact .inr ⟨s,j,hs,hk,h8,h0,h9⟩
   grind
 left
 have hg:χ gO i []=[]:=by rw[zLf,zGn (by have:=hm.lg;omega)];rfl
 grind
theorem toS_valid (qo:I L.cL<=65) (Hq:∀ x∈L.fO,x.Ok) {s:aZ} {c:Int} (h:yK L s c≠(0,0)):cW c=true:=by
 grind [zcZ]
theorem bnd_of {sE:List aZ} (hg:uP L ((bG L.cL).map (bP L.cL)) (I rU) sE rU gO) (Ho:I rU=I sE) (hR:RefL (D.rL.map (·.2)) D.fL D.last L)
 (hc:D.cU=bG L.cL) (Qg:D.gO=gO) (hs:D.sE=sE.map (gU · L.cL.length)) (P1:∀ k,-1<=χ D.last k (-1)/\χ D.last k (-1)<=1000) (ym:(bG L.cL).length<=50000):
 BndH D ⟨bG L.cL,rU,gO,0⟩ (I rU) (I (bG L.cL)):=by
 have hm:=hg.m;have lp:∀ i,i<I rU->∃ s,sE[i]?=some s/\χ D.sE i []=gU s (I L.cL):=λi hi=>by
  simp_all
 have DI:∀ i,i<I rU->(χ D.sE i []).foldl (kK D.last) (-1)=ruO ⟨bG L.cL,rU,gO,0⟩ (i:Int):=λi hi=>by
  obtain⟨s,h1,h2⟩:=lp i hi;obtain⟨r,row,h3,h4,h5,_⟩:=hm.row i s h1 hi;rw[h2,rule_eq hR s _ bR,<-h5];show r=χ rU ((i:Int).toNat) 0
  grind
 have jj:∀ i k,toO ⟨bG L.cL,rU,gO,0⟩ i k=χ (χ gO i []) k (-1):=λ_ _=>rfl;have h1:=(List.getElem?_eq_some_iff.1 hm.hd).1;refine⟨hc.symm,Qg.symm,zg,by rw[Qg];exact hm.lg,by rw[hc],λr hr=> ?_,λi k=> ?_,λi k h=> ?_,DI,λi hi=> ?_,λi hi=> ?_,⟨zo,by have:=hm.max;omega⟩,ym⟩
 . rw[Qg] at hr
   obtain⟨i,hi⟩:=List.mem_iff_getElem?.1 hr;have:=(List.getElem?_eq_some_iff.1 hi).1;have:=hm.lg;obtain⟨s,Yk⟩:=zG sE i zo;obtain⟨r2,row,h3,h4,_,h5,_⟩:=hm.row i s Yk zo
   grind
 . rw[jj]
   rcases go_cell hm Ho i k with h|⟨s,j,_,_,h2,_,h3⟩
   all_goals grind
 . rw[jj] at h
   rcases go_cell hm Ho i k with h2|⟨s,j,_,_,_,h2,_⟩
   . omega
   exact wid_valid (toS_valid hR.le hR.fok h2)
 . rw[<-DI i hi]
   exact zfB P1 _ _ zo
 obtain⟨s,_,h2⟩:=lp i hi
 rw[h2];refine⟨λx hx=>by rw[hR.an];exact (rT.1 hx).1,?_⟩;have:=zaW s (I L.cL);have:=hR.le;omega
def RefO (Lo:List aL->iT) (sT:List η) (w:ω) (e:Ending) (w':ω):Prop:=
 w.u w'/\((∃ (er:Nat) (r a:Int),VerC Lo sT er r a/\e=ρ (ϕ #[Φ none,ι er,ι r,ι a]))\/
  ∃ (tb:Nat) (ts:List aL) (M:Mk) (rU:List Int) (gO:List (List Int)) (sE:List aZ) (D:TD) (S:TS),(1<=I sT/\I sT<=8)/\mQ sT (I sT) ts M/\cO (Lo ts) ((bG (Lo ts).cL).map (bP (Lo ts).cL)) 202 [(1,0)] [] []=some (rU,gO)/\
   uP (Lo ts) ((bG (Lo ts).cL).map (bP (Lo ts).cL)) rU.length sE rU gO/\rU.length=sE.length/\RefL (D.rL.map (·.2)) D.fL D.last (Lo ts)/\D.cU=bG (Lo ts).cL/\D.gO=gO/\D.sE=sE.map (gU · (Lo ts).cL.length)/\
   D.bound=refB ⟨bG (Lo ts).cL,rU,gO,0⟩ (I rU) (I (bG (Lo ts).cL)) (I rU+2) (ψ (I rU) 0)/\
   gW tb D S w'/\w.t<=tb/\e=ρ (ϕ #[bH tb,ι 0,ι 0,ι 0]))
theorem str_at (h:w.r 9 1 v (I sT) (sT.map Value.string)) (hs:sT[i]?=some s):∃ g cap,v=σ g (I sT) cap/\g<w.t/\w.v g i (γ s):=by
 obtain⟨g,cap,u,e,hg,hu,hc⟩:=rB h (List.getElem?_eq_some_iff.1 hs).1;rw[List.getElem?_map,hs] at hu;cases hu;exact⟨g,cap,e,hg,hc⟩
theorem pl_begin (w:ω):
 PlR ⟨σ w.t 1 1,σ (w.t+1) 1 1,σ (w.t+1+1) 1 1,[ν]⟩ ⟨[(ν,[])],[-1],[[]],false⟩ (κ (κ (κ w (Ω #[ν] 190)) (Ω #[ι (-1)] 3)) (Ω #[ν] 24)):=by
 have e1:(κ w (Ω #[ν] 190)).heap.size=w.heap.size+1:=zs
 have e2:(κ (κ w (Ω #[ν] 190)) (Ω #[ι (-1)] 3)).heap.size=w.heap.size+1+1:=zs
 have h1:(κ w (Ω #[ν] 190)).r 190 1 (σ w.t 1 1) 1 [ν]:=⟨rfl,.inr ⟨w.t,1,_,rfl,rC,bA _ _ _ rfl,bR,zd,rfl,rfl⟩⟩;have h2:=li_one (κ w (Ω #[ν] 190)) (-1);rw[e1] at h2
 have h3:(κ (κ (κ w (Ω #[ν] 190)) (Ω #[ι (-1)] 3)) (Ω #[ν] 24)).r 24 1 (σ (w.t+1+1) 1 1) 1 [ν]:=⟨rfl,.inr ⟨w.t+1+1,1,_,rfl,rC,bA _ _ _ (by rw[e2]),bR,zd,rfl,rfl⟩⟩;have b1:=(zBr _ (κ w (Ω #[ν] 190))).alloc bR (Ω #[ι (-1)] 3)
 have b2:=(zBr _ (κ (κ w (Ω #[ν] 190)) (Ω #[ι (-1)] 3))).alloc bR (Ω #[ν] 24);refine⟨aN (aN h1 b1) b2,λp hp=> ?_,dA.below h2 b2,h3,λi v hv=> ?_⟩
 . rw[zMs] at hp
   subst hp;exact World.ownsRow_nil _ _ _ _
 cases i with
 | zero=>
  simp at hv;subst hv;exact⟨dA.nil _,λg hg=>by cases hg⟩
 | succ i=>simp at hv
theorem rel_begin:mV ⟨[(ν,[])],[-1],[[]],false⟩ mk0:=by
 refine⟨rfl,rfl,rfl,rfl,λk=> ?_,λp hp r hr=> ?_⟩
 . cases k with
   | zero=>exact nY.refl _
   | succ k=>exact nY.refl _
 rw[zMs] at hp
 subst hp;cases hr
structure BetS (Lo:List aL->iT) (sT:List η) (w:ω) (P i:Nat) (ts:List aL) (M:Mk) (D:MD) (S:MS) (wr:ω):Prop where
 so:mQ sT i ts M
 ok:iJ M
 on:M.on=false
 one:1<=I M.fL
 rel:mV D M
 pl:PlR S D wr
 pb:PlB w.t S
 cell:wr.h P #[S.vR,S.vL,S.vF] 101
 bel:w.u wr
 p:w.t<=P
theorem BetS.later {Lo:List aL->iT} {wr:ω} {P:Nat} {D:MD} (h:BetS Lo sT w P i ts M D S wr) (hb:wr.u w'):BetS Lo sT w P i ts M D S w':=
 ⟨h.so,h.ok,h.on,h.one,h.rel,h.pl.below hb,h.pb,(hb.block P (aA h.cell)).trans h.cell,h.bel.trans (hb.mono h.bel.size),h.p⟩
theorem PBt.oth {mb Q A:Nat} {p:lF} {ao al:Option Addr} {co cl:Nat} {cs:Array Value} (h:PBt mb S w Q p ao al co cl) (hA:w.h A cs 101) (hk:∀ g,g≠A->w'.e w g):PBt mb S w' Q p ao al co cl:=
 ⟨(hk Q (λe=>by subst e;exact absurd (mW h.b hA) zd)).trans h.b,⟨dZ h.f.1 hA zd hk,h.f.2⟩,⟨dZ h.l.1 hA zd hk,h.l.2⟩⟩
theorem zg3 (l:ο) (x:Nat) (i:Int) (a:List Int):pW (l++[x]) i a=(pW l i a).set x i:=by
 unfold pW;rw[List.foldl_append];rfl
structure zie (w:ω) (P Q:Nat) (al:Option Addr) (cl:Nat) (ls:ο) (D:MD) (S:MS) (wr:ω):Prop where
 pl:PlR S D wr
 pb:PlB w.t S
 cell:wr.h P #[S.vR,S.vL,S.vF] 101
 q:wr.v Q 2 (τ al (I ls) cl)
 lq:Q<wr.t
 tq:∃ cs,wr.h Q cs 112
 li:dA wr (τ al (I ls) cl) (gE ls)
 ne:∀ g,β (Value.slice al (I ls) cl)=some g->β S.vL≠some g
 bel:w.u wr
theorem zie.later {wr:ω} {P Q:Nat} {al:Option Addr} {cl:Nat} {ls:ο} {D:MD} (h:zie w P Q al cl ls D S wr) (hb:wr.u w'):zie w P Q al cl ls D S w':=by
 obtain⟨cs,YA⟩:=h.tq;exact⟨h.pl.below hb,h.pb,(hb.block P (aA h.cell)).trans h.cell,(aG hb (Q.p 2) h.lq).trans h.q,zLd h.lq hb.size,⟨cs,(hb.block Q h.lq).trans YA⟩,h.li.below hb,h.ne,h.bel.trans (hb.mono h.bel.size)⟩
theorem TKp.below {tb B:Nat} {u:ω} (h:TKp tb u w) (hB:B<=u.t) (ht:B<=tb):Below B u w:=⟨h.os,h.tape,h.output,h.size,λb hb=>h.keep b zo zo⟩
theorem gW.setB {tb:Nat} {S:TS} (h:gW tb D S w) (x:Int):gW tb {D with bound:=x} S (ς w (tb.p 6) (ι x)):=by
 have hk:∀ g,g≠tb->(ς w (tb.p 6) (ι x)).e w g:=λg hg=>aD _ _ _ _ hg;have hl:∀ {u:Value} {l:List Int},dA w u l->dA (ς w (tb.p 6) (ι x)) u l:=λhu=>aU hu λg hg=>hk g (h.ne hu zd hg)
 exact⟨by rw[aB w tb 6 _ _ _ _ h.blk];rfl,aU h.rR λg hg=>hk g (h.ne h.rR zd hg),λp hp=>aU (h.rr p hp) λg hg=>hk g (h.ne (h.rr p hp) zd hg),hl h.lR,aU h.fR λg hg=>hk g (h.ne h.fR zd hg),λi u hu=>hl (h.fli i u hu),hl h.crow,aU h.srow λg hg=>hk g (h.ne h.srow zd hg),λi u hu=>hl (h.sli i u hu),aU h.grow λg hg=>hk g (h.ne h.grow zd hg),λi u hu=>hl (h.gli i u hu),h.a1,h.a2⟩
structure LoOk (L:iT) (ts:List aL):Prop where
 spec:zgb L ts
 rng:∀ c∈L.cL,iF c
 cl:I (bG L.cL)<=50000
 few:I ts<=8
theorem row_max {e:TypeId} {size:Nat} {xs:ζ} (h:w.r e size v n xs):n<=9223372036854775807:=by
 obtain⟨_,h2|⟨g,cap,X0,_,_,_,nv,y7,_⟩⟩:=h
 . omega
 unfold maxLen at y7;omega
theorem cuts_ref (hR:RefL (D.rL.map (·.2)) D.fL D.last L) (x:Int):x∈bG L.cL↔x∈cJ\/∃ p∈D.rL,lE p.2 x:=by
 rw[zbR,zao];by_cases hw:x∈cJ
 . simp[hw]
 have hl:=hR.ln
 rw[List.length_map] at hl;have key:∀ k,k<I L.cL->(lE (χ (D.rL.map (·.2)) k []) x↔lE (χ L.cL k []) x):=λk hk=>(hR.cL k).cut x hw;constructor
 . rintro (h|⟨c,hc,r,hr,hx⟩)
   . exact absurd h hw
   obtain⟨k,hk⟩:=List.mem_iff_getElem?.1 hc
   have XR:=(List.getElem?_eq_some_iff.1 hk).1;have h1:lE (χ L.cL k []) x:=by rw[zLf,hk];exact⟨r,hr,hx⟩
   have h2:=(key k XR).2 h1;obtain⟨p,hp⟩:=zG D.rL k zo;rw[zLf,List.getElem?_map,hp] at h2;exact .inr ⟨p,zM hp,h2⟩
 rintro (h|⟨p,hp,hx⟩)
 . exact absurd h hw
 obtain⟨k,hk⟩:=List.mem_iff_getElem?.1 hp
 have XR:=(List.getElem?_eq_some_iff.1 hk).1;have h1:lE (χ (D.rL.map (·.2)) k []) x:=by rw[zLf,List.getElem?_map,hk];exact hx
 obtain⟨r,hr,hx⟩:=(key k zo).1 h1;refine .inr ⟨χ L.cL k [],?_,r,hr,hx⟩;rw[zLf,zLe zo];exact List.getElem_mem _
theorem zhA (h:LoOk L ts) {rL:List Rng} {fL:List ο} {last:List Int} (hR:RefL rL fL last L) (k:Nat): -1<=χ last k (-1)/\χ last k (-1)<=1000:=by
 rcases zLg k (I L.cL) with hk|hk
 . rw[hR.last' k hk]
   rcases Nat.eq_zero_or_pos k with rfl|h0
   . rw[h.spec.rul0];omega
   rw[h.spec.rul k h0 hk]
   rcases zbt ts 0 1 k with e|⟨j,e,hj⟩
   . rw[e];omega
   rw[e];have:=h.few;omega
 rw[zLf,zGn (by rw[hR.an];exact hk)]
 show -1<=(-1:Int)/\(-1:Int)<=1000;omega
theorem grow_h (h:LoOk L ts) (hR:RefL (D.rL.map (·.2)) D.fL D.last L) (hc:D.cU=bG L.cL) (hf:zeY D.fL) (hr:∀ p∈D.rL,I p.2<=9223372036854775807):GrowH D L:=by
 refine⟨hR,by rw[h.spec.len];omega,hc,λx hx=> ?_,by rw[hc];exact h.cl,λr Po=> ?_,hr⟩
 . rw[hc] at hx
   exact xL h.rng hx
 have:=dD (hf.nd r Po) (hf.lt r Po)
 have:=hR.fn;have:=hR.le;omega
theorem zbK (Lo:List aL->iT) (sT:List η) (w:ω) (v:Value) (Hb:w.r 9 1 v (I sT) (sT.map Value.string)) (hl:I sT<=1000000) (h0:0<w.heap.size) (hLo:I sT<=8->∀ ts M,mQ sT (I sT) ts M->LoOk (Lo ts) ts):
 Γ 18 #[v] w (RefO Lo sT w):=by
 obtain⟨ao,cap,rfl⟩:=bJ Hb;have BW:=zh hLo;have Hw:=zh Hb;have HL:=Θ hl h0;clear Hb hl h0 hLo;go_in;by_cases VO:I sT<1
 . have z1:(I sT:Int)<1:=zo
   have HV:zH (VerC Lo sT 1 (-1) (-1)):=zh (.count (.inl VO));clear VO;go_wp2_with fail;refine bodyPost_ret (v:=ϕ #[Φ none,ι 1,ι (-1),ι (-1)]) zzBF rfl ?_;exact⟨iM,.inl ⟨1,-1,-1,HV.o,rfl⟩⟩
 have z1:¬ (I sT:Int)<1:=zo
 by_cases jq:8<I sT
 . have z2:(8:Int)<(I sT:Int):=zo
   have HV:zH (VerC Lo sT 1 (-1) (-1)):=zh (.count (.inr jq));clear VO jq;go_wp2_with fail;refine bodyPost_ret (v:=ϕ #[Φ none,ι 1,ι (-1),ι (-1)]) zzBF rfl ?_;exact⟨iM,.inl ⟨1,-1,-1,HV.o,rfl⟩⟩
 have z2:¬ (8:Int)<(I sT:Int):=zo
 have HN:zH (1<=I sT/\I sT<=8):=zh ⟨zo,zo⟩;clear VO jq;go_wp2_with fail;go_loopw [6] (λs6 wr=>∃ i:Nat,s6=ι i/\i<=I sT/\(∀ (j:Nat) (u:η),j<i->sT[j]?=some u->u.size<=60)/\wr=w) (λs6 _=>I sT-(ϑ s6).toNat)
 case atStart=>exact⟨0,rfl,zo,λj u hj=>zo,rfl⟩
 case round=>
  obtain⟨i,rfl,hi,E5,rfl⟩:=hrel;have Xt:=zh E5;clear E5;by_cases Hf:i<I sT
  . have zl:=zt i (I sT)
    have yw:=zW i zzBi;obtain⟨s,hs⟩:=zG sT i Hf;obtain⟨g,xq,e,lg,cg⟩:=str_at Hw.o hs;cases e;have HS:=zh hs;clear hs;by_cases QW:60<s.size
    . have z3:(60:Int)<(s.size:Int):=zo
      have HV:zH (VerC Lo sT 1 i 0):=zh (.size i s HN.o HS.o QW Xt.o);clear QW;go_wp2_with fail;refine bodyPost_ret (v:=ϕ #[Φ none,ι 1,ι i,ι 0]) zzBF rfl ?_;exact⟨iM,.inl ⟨1,i,0,HV.o,rfl⟩⟩
    have z3:¬ (60:Int)<(s.size:Int):=zo
    have HB:=zh QW;clear QW;go_wp2_with fail;go_roundw
    case rel=>exact⟨i+1,by go_num,zo,(λj u hj hu=>by
     by_cases e:j=i
     . subst e
       rw[HS.o] at hu;cases hu;have:=HB.o;omega
     . exact Xt.o j u zo hu),trivial⟩
    case measure=>exact zY
  have zl:=zn i (I sT)
  have tN:zH (∀ s∈sT,s.size<=60):=zh (λs hs=>by
   obtain⟨j,hj⟩:=List.mem_iff_getElem?.1 hs;exact Xt.o j s (by have:=(List.getElem?_eq_some_iff.1 hj).1;omega) hj)
  go_upto_region 9 with fail
  have e3:(κ (κ (κ wr (Ω #[ν] 190)) (Ω #[ι (-1)] 3)) (Ω #[ν] 24)).heap.size=wr.heap.size+1+1+1:=zs
  have XT:=pl_begin wr;have Hu:wr.u (κ (κ (κ wr (Ω #[ν] 190)) (Ω #[ι (-1)] 3)) (Ω #[ν] 24)):=((Ξ wr _).alloc zs _).alloc zx _
  have jy:zH (∃ (ts:List aL) (M:Mk) (D:MD) (S:MS),BetS Lo sT wr (wr.t+1+1+1) 0 ts M D S (κ (κ (κ (κ wr (Ω #[ν] 190)) (Ω #[ι (-1)] 3)) (Ω #[ν] 24)) (Ω #[σ wr.t 1 1,σ (wr.t+1) 1 1,σ (wr.t+1+1) 1 1] 101))):=zh
   ⟨[],mk0,_,_,⟨rfl,λj s hj=>zo,rfl,tN.o⟩,zfC,rfl,zd,rel_begin,XT.below (iM.alloc bR _),⟨λg hg=>(by cases hg;exact bR),λg hg=>(by cases hg;exact Nat.le_succ _),λg hg=>(by cases hg;exact zT (Nat.le_succ _) (Nat.le_succ _))⟩,bA _ _ _ (by rw[e3]),Hu.alloc (by rw[e3];omega) _,zo⟩
  clear e3 XT Hu Xt;generalize (κ (κ (κ wr (Ω #[ν] 190)) (Ω #[ι (-1)] 3)) (Ω #[ν] 24)).alloc (Ω #[σ wr.heap.size 1 1,σ (wr.heap.size+1) 1 1,σ (wr.heap.size+1+1) 1 1] 101)=w1 at jy ⊢;obtain⟨w0,ju⟩:=zE (wr);rw[<-ju] at Hw HL jy ⊢;generalize w0.heap.size+1+1+1=P at jy ⊢;have Ei:=zh ju;clear ju;go_wp2_with fail
  go_loopw [8] (λs8 wr=>∃ (i:Nat) (ts:List aL) (M:Mk) (D:MD) (S:MS),s8=ι i/\i<=I sT/\BetS Lo sT w0 P i ts M D S wr) (λs8 _=>I sT-(ϑ s8).toNat)
  case atStart=>
   obtain⟨ts,M,D,S,hb⟩:=jy.o;exact⟨0,ts,M,D,S,rfl,zo,hb⟩
  case round=>
   clear jy;obtain⟨i,ts,M,D,S,rfl,hi,tW⟩:=hrel;have vl:=zh tW;clear tW;by_cases Hf:i<I sT
   . have zl:=zt i (I sT)
     have yw:=zW i zzBi;obtain⟨s,hs⟩:=zG sT i Hf;obtain⟨g,xq,e,lg0,cg0⟩:=str_at Hw.o hs;cases e;have cg:=(aG vl.o.bel (g.p i) lg0).trans cg0;have lg:g<wr.t:=zLd lg0 vl.o.bel.size;have HS:=zh hs;have Hv:s.size<=60:=tN.o s (zM hs);clear hs cg0 lg0;go_upto_region 13 with fail
     have Hm:=(zBr wr.t wr).alloc bR (Ω #[γ s,ι 0,ι 0,ι 0,ν] 105);have tM:zH (gD w0.t wr.t s ⟨0,0,0,[]⟩ ν (κ wr (Ω #[γ s,ι 0,ι 0,ι 0,ν] 105))):=zh ⟨bA _ _ _ rfl,World.ownsRow_nil _ _ _ _,⟨HL.o.2,vl.o.bel.size,λg hg=>(by cases hg)⟩,⟨Hv,rC,zd,zd⟩,λd hd=>(by cases hd),λd hd=>(by cases hd)⟩;have QV:=zh Hm;clear Hm cg lg
     generalize wr.alloc (Ω #[γ s,ι 0,ι 0,ι 0,ν] 105)=w2 at tM QV ⊢;obtain⟨pb,Vr⟩:∃ pb,wr.heap.size=pb:=⟨_,rfl⟩;have tL:=zh Vr;rw[Vr] at tM QV ⊢;clear Vr;have HK:=zh ((zi5 (4*s.size+10)).2.2 w0.t pb s ⟨0,0,0,[]⟩ ν w2 0 tM.o rfl rC zd (zhe Hv));have AY:zH (iE s=match nI s (4*s.size+10) 0 0 with| .error e=>.error e| .ok (t,q)=>if q<s.size then .error (2,q) else .ok t):=zh rfl
     obtain⟨RP,Zq⟩:=zE (nI s (4*s.size+10) 0 0);have VX:zH (Γ 31 #[bH pb,ι 0] w2 (TrO w0.t pb s ⟨0,0,0,[]⟩ 1 6 0 RP ν w2)):=zh (by rw[Zq];exact HK.o);rw[<-Zq] at AY;clear Zq HK;unfold bH at VX;go_upto_region 14 with (go_at_call 31;refine VX.o.mono ?_;rintro e' w3 ⟨k,y,lv,rfl,g1,g2,g3,g4,g5,g6⟩;have H3:=Λ g1 g2 g4;have HT:=zh g6;clear g1 g2 g3 g4 g5 g6)
     obtain⟨y0,y1,y2,y3,y4⟩:=H3.o.1.cells;have lpb:=H3.o.1.lt;have CX:=H3.o.1.sz;have Hu:Below pb wr w3:=QV.o.trans (H3.o.2.1.below (B:=pb) (by have:=tM.o.lt;omega) bR (λg hg=>(by cases hg)));have VU:zH (wr.u w3):=zh (by rw[tL.o];exact Hu);clear Hu;have yg:=zh (vl.o.later VU.o);cases RP with
     | error er=>
      obtain⟨u1,u2,u3,u4⟩:=HT.o;have HV:zH (VerC Lo sT er.1 i er.2):=zh (.parse i s ts M er HN.o vl.o.so HS.o AY.o zo);have:((y.e:Int)==0)=false:=beq_eq_false_iff_ne.2 zo;have:((y.e:Int) != 0)=true:=zx
      have HE:=Θ u1 u2;clear u1 u2 u3 u4 HT AY;go_quiet (fail);go_upto_region 17 with fail
      go_quiet (fail);go_wp2;refine bodyPost_ret (v:=ϕ #[Φ none,ι y.e,ι i,ι y.wh]) zzBF rfl ?_;rw[<-Ei.o];refine⟨?_,.inl ⟨y.e,i,y.wh,by rw[HE.o.1,HE.o.2];exact HV.o,rfl⟩⟩;exact aK (aK yg.o.bel _) _
     | ok rq=>
      obtain⟨t,q⟩:=rq;obtain⟨u1,u2,u3,u4,u5⟩:=HT.o;have u1:y.e=0:=u1;rw[u1] at y2;rw[u3] at y1;by_cases hq:q<s.size
      . have HV:zH (VerC Lo sT 2 i q):=zh (.parse i s ts M (2,q) HN.o vl.o.so HS.o (by rw[AY.o];dsimp only;rw[zP hq]) (by decide:(2:Nat)≠0))
        have zq:=zt q s.size
        have HF:=zh (λn=>iQ w0.t pb s y lv (w3.drewN n) (H3.o.1.below (aK (zBr _ w3) n)) 2 q zo zo);have xv:fK y 2 q={y with e:=2,wh:=q}:=by unfold fK;rw[zP u1]
        rw[xv] at HF;unfold bH at HF;clear u1 u2 u3 u4 u5 HT AY hq xv;go_quiet (fail);have ud:zH (w0.u (w3.drewN nq)):=zh (aK yg.o.bel nq);go_upto_region 16 with (have H0:=HF.o nq;clear HF;go_at_call 32;refine H0.mono ?_;clear H0;rintro e' w5 ⟨rfl,g1,g2⟩;have H5:=Θ g1 g2;clear g1 g2)
        obtain⟨y0,y1,y2,y3,y4⟩:=H5.o.1.cells;have lpb:=H5.o.1.lt;go_upto_region 17 with fail;go_quiet (fail);go_wp2;refine bodyPost_ret (v:=ϕ #[Φ none,ι 2,ι i,ι q]) zzBF rfl ?_;rw[<-Ei.o];refine⟨?_,.inl ⟨2,i,q,HV.o,rfl⟩⟩;refine aK (ud.o.trans ?_) _;refine H5.o.2.below (B:=w0.t) ?_ ?_ ?_
        . exact yg.o.bel.size
        . exact H3.o.1.low.2.1
        exact λg hg=>(H3.o.1.low.2.2 g hg).1
      have B8:zH (iE s=.ok t):=zh (by rw[AY.o];dsimp only;rw[zN hq])
      have zq:=zn q s.size
      have Tr:=zh u4;have Uq:=Θ u1 u2;clear u1 u2 u3 u4 u5 HT AY hq;go_quiet (fail);have XM:zH (gD w0.t pb s y lv (w3.drewN nq)):=zh (H3.o.1.below (aK (zBr _ w3) nq));have Y7:zH (BetS Lo sT w0 P i ts M D S (w3.drewN nq)):=zh (yg.o.later (aK (zBr _ w3) nq));clear y0 y1 y2 y3 y4 lpb yg VU QV tL tM;generalize w3.drewN nq=w4 at XM Y7 ⊢;obtain⟨tP,cN,CT⟩:=bJ XM.o.row;obtain⟨_,_,y2,_,y4⟩:=XM.o.cells;rw[Uq.o.1] at y2;have lpb:=XM.o.lt
      obtain⟨aoR,cR,kh⟩:=bJ Y7.o.pl.rR;obtain⟨aoL,cL,Td⟩:=bJ Y7.o.pl.lR;obtain⟨aoF,cF,Ke⟩:=bJ Y7.o.pl.fR;have p0:w4.v P 0 S.vR:=by rw[zQ 0 Y7.o.cell];rfl
      have p1:w4.v P 1 S.vL:=by rw[zQ 1 Y7.o.cell];rfl
      have p2:w4.v P 2 S.vF:=by rw[zQ 2 Y7.o.cell];rfl
      have lP:=aA Y7.o.cell;have K4:=(mk_begin (B:=w0.t) (N:=y.ns) (lv:=lv) Y7.o.pl Y7.o.pb ⟨HL.o.2,Y7.o.bel.size⟩ XM.o.row (λd hd=>(XM.o.rg d hd).1)).below iM.drew;rw[kh,CT] at K4;rw[Td,Ke] at K4;rw[kh] at p0;rw[Td] at p1;rw[Ke] at p2;rw[CT] at y4;have IF:=zh K4;have Bb:=Ψ kh Td Ke CT
      have CX:∀ wx:ω,w4.u wx->(wx.v pb 4 (τ tP (I y.ns) cN)/\wx.v P 0 (τ aoR (I D.rL) cR)/\wx.v P 1 (τ aoL (I D.last) cL)/\wx.v P 2 (τ aoF (I D.fL) cF)):=λwx hb=>⟨(aG hb (pb.p 4) lpb).trans y4,(aG hb P.a lP).trans p0,(aG hb (P.p 1) lP).trans p1,(aG hb (P.p 2) lP).trans p2⟩;have Uo:=zh CX;have AG:=CX w4 iM;clear K4 kh Td Ke CT CX
      go_upto_region 18 with fail
      clear y2;refine zzAl ?_;refine bV (λw'=>w'.v pb 4 (τ tP (I y.ns) cN)/\w'.v P 0 (τ aoR (I D.rL) cR)/\w'.v P 1 (τ aoL (I D.last) cL)/\w'.v P 2 (τ aoF (I D.fL) cF)) 7 zK AG (λHc=> ?_);clear AG y4 p0 p1 p2;refine zzAD ?_;refine bY 5 (λK hK=> ?_);go_simp;refine hK.out _ _ (λ_=>Hc) ?_;clear hK K;refine zzAF ?_;refine bY 6 (λK hK=> ?_);go_simp;refine hK.out _ _ (λ_=>Uo.o _ (((zBr w4.t w4).drew).alloc bR _)) ?_;clear hK K;refine zzAF ?_;refine bY 7 (λK hK=> ?_);go_simp;refine hK.out _ _ (λh=>absurd rfl h) ?_;clear hK K Hc Uo
      refine zzAF ?_;refine dB zK ?_;refine NoPanic.normal ?_;have Qn:w4.u ((κ w4 (Ω #[τ tP (I y.ns) cN,τ aoR (I D.rL) cR,τ aoL (I D.last) cL,τ aoF (I D.fL) cF,φ false] 110)).drew):=((zBr w4.t w4).alloc bR _).drew;have Qs:=zh (Y7.o.later Qn);clear Qn lpb lP;have Dw:=IF.o
      generalize (κ w4 (Ω #[τ tP (I y.ns) cN,τ aoR (I D.rL) cR,τ aoL (I D.last) cL,τ aoF (I D.fL) cF,φ false] 110)).drew=w5 at Dw Qs ⊢;clear IF;obtain⟨mb,T0⟩:∃ mb,w4.heap.size=mb:=⟨_,rfl⟩;rw[T0] at Dw ⊢;have LF:=zh Dw;clear Dw T0;have DV:=Bb.o;rw[<-DV.2.2.2] at LF;have TA:zH (mV {D with on:=false} M):=zh ⟨Qs.o.rel.last,Qs.o.rel.fL,Qs.o.on.symm,Qs.o.rel.len,Qs.o.rel.cL,Qs.o.rel.bd⟩
      have HK:=zh (pT Tr.o w0.t mb {D with on:=false} S w5 M LF.o TA.o Qs.o.ok);have By:=rA t M Qs.o.ok;obtain⟨rt,BD⟩:=zE (fP t M);rw[<-BD] at HK By;have Ai:=zh BD;clear BD DV;obtain⟨⟨em,fs,ls⟩,M1⟩:=rt;dsimp only at By;have Y9:=zh By;clear By;unfold bH at HK
      go_upto_region 20 with (go_at_call 33;refine HK.o.mono ?_;rintro e' v6 ⟨D6,S6,ao,al,co,cl,rfl,g1,g2,g3,g4,g5⟩;have HG:=Ψ g1 g2 g3 (zAi g4 g5);clear g1 g2 g3 g4 g5)
      have YV:=(zBr v6.t v6).alloc bR (Ω #[φ em,τ ao (I fs) co,τ al (I ls) cl] 112);have bq:=zh (HG.o.1.below YV);have Ju:=zh (nD (p:=⟨em,fs,ls⟩) HG.o.1 HG.o.2.2.2.1 HG.o.2.2.2.2);have vh:zH (mV D6 M1):=zh HG.o.2.1;have dw:=zaK HG.o.2.2.1 (LF.o.notT Qs.o.cell zd zd zd zd) Qs.o.cell
      have B7:zH ((κ v6 (Ω #[φ em,τ ao (I fs) co,τ al (I ls) cl] 112)).h P #[S.vR,S.vL,S.vF] 101):=zh ((YV.block P (aA dw)).trans dw);have Gv:Below w0.t w5 v6:=HG.o.2.2.1.below Qs.o.bel.size LF.o.low.2;have qz:zH (w0.u (κ v6 (Ω #[φ em,τ ao (I fs) co,τ al (I ls) cl] 112))):=zh ((Qs.o.bel.trans Gv).trans (YV.mono (zT Qs.o.bel.size Gv.size)));have YZ:=zh Qs.o.so;have AY:=zh Qs.o.p
      have B4:=zh Qs.o.one;clear dw Gv YV HG LF TA Y7 Qs Bb vl XM H3 Tr;dsimp only at Ju;generalize v6.alloc (Ω #[φ em,τ ao (I fs) co,τ al (I ls) cl] 112)=w6 at bq Ju B7 qz ⊢;generalize v6.heap.size=Q at Ju ⊢;obtain⟨aoR6,cR6,In⟩:=bJ bq.o.rR;obtain⟨aoL6,cL6,Im⟩:=bJ bq.o.lR;obtain⟨aoF6,cF6,Il⟩:=bJ bq.o.fR;obtain⟨_,c1,c2,c3,c4⟩:=bq.o.cells;rw[In] at c1;rw[Im] at c2;rw[Il] at c3;have lP:=aA B7.o
      obtain⟨x0,q0,x1,q1,x2,q2⟩:=iG B7.o (τ aoR6 (I D6.rL) cR6) (τ aoL6 (I D6.last) cL6);have vq:=zh (jS B7.o (τ aoR6 (I D6.rL) cR6) (τ aoL6 (I D6.last) cL6) (τ aoF6 (I D6.fL) cF6));have Bb:=Λ In Im Il;have CF:=zh (aB _ P 2 (τ aoF6 (I D6.fL) cF6) _ _ _ (aB _ P 1 (τ aoL6 (I D6.last) cL6) _ _ _ (aB w6 P 0 (τ aoR6 (I D6.rL) cR6) _ _ _ B7.o)));clear In Im Il c4;go_upto_region 21 with fail
      clear x0 q0 x1 q1 x2 q2 c1 c2 c3 lP;have Tb:=vq.o;generalize (ς (ς w6 P.a (τ aoR6 (I D6.rL) cR6)) (P.p 1) (τ aoL6 (I D6.last) cL6)).setCell (P.p 2) (τ aoF6 (I D6.fL) cF6)=w7 at Tb CF ⊢;clear vq;obtain⟨z0,z1,z2,zk,zb⟩:=Tb;have hmP:mb≠P:=λe=>by
       have h1:=bq.o.blk;rw[e] at h1;exact absurd (mW h1 B7.o) zd
      have EN:=(zk mb hmP).trans bq.o.blk;have c4:w7.v mb 4 (φ M1.on):=by rw[zQ 4 EN,<-vh.o.on];rfl
      have Tt:=zh (Ju.o.oth B7.o zk);have AX:=zh ((PlR.of_mk bq.o).1.other B7.o zd zk);have FI:=zh (PlR.of_mk bq.o).2;have BN:=zh (qz.o.trans (zb.mono AY.o));clear z0 z1 zk zb EN hmP Ju bq qz B7;obtain⟨on1,Qr⟩:=zE (M1.on);rw[<-Qr] at c4;cases on1 with
      | true=>
       have HV:zH (VerC Lo sT 6 i 0):=zh (.full i s ts M t HN.o YZ.o HS.o B8.o (by rw[<-Ai.o];exact Qr.symm));clear Qr;go_wp2_with fail;refine bodyPost_ret (v:=ϕ #[Φ none,ι 6,ι i,ι 0]) zzBF rfl ?_;rw[<-Ei.o];exact⟨BN.o,.inl ⟨6,i,0,HV.o,rfl⟩⟩
      | false=>
       have LM:=zh Qr;clear Qr;have Yi:I D6.fL=I M1.fL:=by rw[vh.o.fL]
       have Ya:0<I D6.fL:=by rw[Yi];exact zLd B4.o Y9.o.2.2
       have xv:=AX.o.fR;obtain⟨gF,cF,u,eF,lgF,hu,tQ⟩:=rB xv Ya;rw[Bb.o.2.2] at eF;cases eF;have X7:=AX.o.fli 0 u hu;obtain⟨aou,cu,AL⟩:=X7.1.form;subst AL;have p2:=z2;obtain⟨_,pq1,pq2⟩:=Tt.o.cells;dsimp only at pq1 pq2;have lP:=aA CF.o;have lQ:=aA Tt.o.b;have xu:=(zBr w7.t w7).drew;have QZ:I (χ D6.fL 0 [])<=65:=by
        have hm:χ D6.fL 0 []∈M1.fL:=by
         rw[vh.o.fL,zLf,zLe (by rw[<-Yi];exact Ya)];exact List.getElem_mem _
        exact zT (dD (Y9.o.1.f.nd _ hm) (Y9.o.1.f.lt _ hm)) Y9.o.1.le
       have Cl:I fs<=65:=zT (dD Y9.o.2.1.fn Y9.o.2.1.f) Y9.o.1.le;have HK:=zh (lX _ _ _ _ w7.drew (X7.1.below xu) (Tt.o.f.1.below xu) (by rw[bZ];omega) (by rw[bZ];dsimp only;omega));rw[<-mL,bZ,bZ] at HK;dsimp only at HK;have AP:zH (M1.fL.modify 0 (dH · fs)=D6.fL.set 0 (dH (χ D6.fL 0 []) fs)):=zh (by rw[vh.o.fL];exact zdy (by rw[<-Yi];exact Ya));obtain⟨J,hJ⟩:=zE (dH (χ D6.fL 0 []) fs);rw[<-hJ] at HK AP
       rw[bZ] at tQ;generalize (I (χ D6.fL 0 []))=nu at HK tQ;have R8:=zh Ya;clear hJ Yi xv hu X7 xu QZ Cl z2;go_upto_region 23 with fail
       clear c4;refine zzAl ?_;refine bV (λw'=>w'.v P 2 (σ gF (I D6.fL) cF6)/\w'.v gF 0 (τ aou nu cu)/\w'.v Q 1 (τ ao (I fs) co)) 10 zK ⟨p2,tQ,pq1⟩ (λHc=> ?_);refine zzAC ?_;refine bY 8 (λK hK=> ?_);go_simp;go_at_call 34;refine HK.o.mono ?_;rintro e w8 ⟨Xe,c2,rfl,V9⟩;have hn:sW w7.t (τ Xe (I J) c2) (gE J) w7 w8:=⟨V9.1,V9.2.1,(zBr w7.t w7).drew.trans V9.2.2⟩;clear V9;have yy:=zAi ((aG hn.2.2 (P.p 2) lP).trans p2) (zAi ((aG hn.2.2 gF.a lgF).trans tQ) ((aG hn.2.2 (Q.p 1) lQ).trans pq1));refine hK.out _ _ (λ_=>yy) ?_;clear hK K Hc
       refine zzAF ?_;refine aE 9 yy ?_;clear yy;have O1:=AX.o.below hn.2.2;have lgF2:gF<w8.t:=zLd lgF hn.2.2.size;obtain⟨bt,Do⟩:∃ cs,w8.h gF cs 24:=dE O1.fR (by rw[Bb.o.2.2];rfl);have fgF:=bN w8 gF 0 _ _ Do;have cgF2:w8.v gF 0 (τ aou nu cu):=(aG hn.2.2 gF.a lgF).trans tQ;have Ag:=zh hn;have Tl:=zh Do;clear hn Do O1;refine bY 10 (λK hK=> ?_);go_simp
       refine hK.out _ _ (λh=>absurd rfl h) ?_;clear hK K;refine zzAF ?_;refine dB zK ?_;refine NoPanic.normal ?_;have Jl:∀ g,g≠gF->(ς w8 gF.a (τ Xe (I J) c2)).e w8 g:=λg hg=>aD _ _ _ _ hg;have Mh:∀ {b:Nat} {cs:Array Value} {t:TypeId},w8.h b cs t->t≠24->b≠gF:=λh1 h2 e=>by
        subst e;exact h2 (mW h1 Tl.o)
       have Zo:=(Ag.o.2.2.block P lP).trans CF.o;have gj:=(Ag.o.2.2.block Q lQ).trans Tt.o.b;have hl8:=Tt.o.l.1.below Ag.o.2.2;have VF:zH (zie w0 P Q al cl ls {D6 with fL:=D6.fL.set 0 J} {S6 with fv:=S6.fv.set 0 (τ Xe (I J) c2)} (ς w8 gF.a (τ Xe (I J) c2))):=zh
        ⟨(AX.o.below Ag.o.2.2).setF Bb.o.2.2 R8.o Ag.o.1 (λg hg e=>by
          have h1:=Ag.o.2.1 g hg;have h2:=AX.o.lR.lt g e;omega),FI.o,by
          refine (Jl P (Mh Zo zd)).trans ?_;rw[Zo,Bb.o.1,Bb.o.2.1,Bb.o.2.2];rfl,by
          have h9:=(Jl Q (Mh gj zd)).trans gj;rw[zQ 2 h9];rfl,aA ((Jl Q (Mh gj zd)).trans gj),⟨_,(Jl Q (Mh gj zd)).trans gj⟩,dZ hl8 Tl.o zd Jl,λg hg e=>Tt.o.l.2 g hg (.inr (.inr (.inl e))),
          BN.o.trans ((Ag.o.2.2.mono BN.o.size).trans ⟨rfl,rfl,rfl,by simp[World.setCell],λb hb=>Jl b (by
           have:=FI.o.2.2 gF (by rw[Bb.o.2.2];rfl);omega)⟩)⟩
       clear Jl Mh Zo gj hl8 cgF2 fgF lgF2 lgF tQ p2 pq1 pq2 lP lQ;generalize w8.setCell gF.a (τ Xe (I J) c2)=w9 at VF ⊢;clear Ag Tl AX Tt CF BN FI;generalize ({S6 with fv:=S6.fv.set 0 (τ Xe (I J) c2)}:MS)=S9 at VF;clear Ya;go_wp2_with fail;go_loopw [13] (λs13 wr=>∃ (k:Nat) (D':MD),s13=ι k/\k<=I ls/\D'.last=pW (ls.take k) i D6.last/\D'.rL=D6.rL/\D'.fL=D6.fL.set 0 J/\D'.on=D6.on/\zie w0 P Q al cl ls D' S9 wr) (λs13 _=>I ls-(ϑ s13).toNat)
       case atStart=>exact⟨0,{D6 with fL:=D6.fL.set 0 J},rfl,rC,rfl,rfl,rfl,rfl,VF.o⟩
       case round=>
        clear VF;obtain⟨k,D',rfl,hk,KU,tX,Pe,IV,BG⟩:=hrel;have HD:=Ψ KU tX Pe IV;have VF:=zh BG;clear KU tX Pe IV BG;have hql:=VF.o.q;have lQ:=VF.o.lq;have:I ls<=65:=zT (dD Y9.o.2.1.ln Y9.o.2.1.l) Y9.o.1.le;by_cases XR:k<I ls
        . have zk:=zt k (I ls)
          have:=mF k;obtain⟨ga,cla,e,lga,cga⟩:=rE VF.o.li (i:=k) (by rw[bZ];exact XR);rw[bZ] at e;cases e;rw[zbV XR] at cga;have hx:χ ls k 0<I D'.last:=by
           rw[HD.o.1,zbx,vh.o.last,Y9.o.1.a];exact Y9.o.2.1.l _ (zaJ XR)
          have Eh:zH (pW (ls.take (k+1)) i D6.last=D'.last.set (χ ls k 0) i):=zh (by rw[sK XR,zg3,HD.o.1]);generalize ls.getD k 0=x at cga hx Eh;obtain⟨gL,cL9,eL,lgL,cgL⟩:=rE VF.o.pl.lR hx;have p1:wr.v P 1 S9.vL:=by rw[zQ 1 VF.o.cell];rfl
          rw[eL] at p1;have lP:=aA VF.o.cell;have zx:=zt x (I D'.last)
          obtain⟨bl,ot⟩:∃ cs,wr.h gL cs 3:=dE VF.o.pl.lR (by rw[eL];rfl);have fgL:=bN wr gL x _ _ ot;have AQ:=Λ ot eL hx;clear ot eL hx;go_upto_region 27 with fail
          refine zzAl ?_;refine bV (λw'=>w'.v P 1 (σ gL (I D'.last) cL9)/\w'.v Q 2 (σ ga (I ls) cl)/\w'.i ga k (x:Nat)) 9 zK ⟨p1,hql,cga⟩ (λHc=> ?_);refine zzAC ?_;refine aE 8 Hc ?_;refine bY 9 (λK hK=> ?_);go_simp;refine hK.out _ _ (λh=>absurd rfl h) ?_;clear hK K;refine zzAF ?_;refine dB zK ?_;refine NoPanic.normal ?_;have tz:=VF.o.pl.setL (x:=(i:Int)) AQ.o.2.1 AQ.o.2.2;have Jl:∀ g,g≠gL->(ς wr (gL.p x) (ι i)).e wr g:=λg hg=>aD _ _ _ _ hg
          have t8:∀ {b:Nat} {cs:Array Value} {t:TypeId},wr.h b cs t->t≠3->b≠gL:=λh1 h2 e=>by
           subst e;exact h2 (mW h1 AQ.o.1)
          have Ba:zH (zie w0 P Q (some ga.a) cl ls {D' with last:=D'.last.set x i} S9 (ς wr (gL.p x) (ι i))):=zh (by
           obtain⟨cq,CO⟩:=VF.o.tq;have hq9:=(Jl Q (t8 CO zd)).trans CO;refine⟨tz.1,VF.o.pb,(Jl P (t8 VF.o.cell zd)).trans VF.o.cell,?_,aA hq9,⟨cq,hq9⟩,tz.2 _ _ VF.o.li VF.o.ne,VF.o.ne,VF.o.bel.trans ⟨rfl,rfl,rfl,by simp[World.setCell],λb hb=>Jl b (by
            have:=VF.o.pb.2.1 gL (by rw[AQ.o.2.1];rfl);omega)⟩⟩
           have h9:=VF.o.q;rw[zQ 2 CO] at h9;rw[zQ 2 hq9];exact h9)
          clear tz Jl t8 p1 hql cga cgL fgL lP lQ lga lgL zx;generalize wr.setCell (gL.p x) (ι i)=Ki at Ba ⊢;go_wp2_with fail;go_roundw
          case rel=>exact⟨k+1,{D' with last:=D'.last.set x i},by go_num,zo,Eh.o.symm,HD.o.2.1,HD.o.2.2.1,HD.o.2.2.2,Ba.o.later iM.drew⟩
          case measure=>exact zY
        have zk:=zn k (I ls)
        have t7:k=I ls:=zo
        have Qo:zH (BetS Lo sT w0 P (i+1) (ts++[t]) (M1.fin ⟨em,fs,ls⟩ i) D' S9 wr):=zh (by
         have hf:=Mk.fin_ok Y9.o.1 Y9.o.2.1 i;have Kb:=YZ.o.next HS.o B8.o (by rw[<-Ai.o];exact LM.o.symm);rw[<-Ai.o] at Kb;have Oq:D'.last=pW ls i M1.last:=by rw[HD.o.1,t7,List.take_length,vh.o.last]
         refine⟨Kb,hf.1,LM.o.symm,by rw[hf.2];exact zT B4.o Y9.o.2.2,⟨Oq,by rw[HD.o.2.2.1];exact AP.o.symm,by rw[HD.o.2.2.2,vh.o.on];rfl,by rw[HD.o.2.1];exact vh.o.len,by rw[HD.o.2.1];exact vh.o.cL,by rw[HD.o.2.1];exact vh.o.bd⟩,VF.o.pl,VF.o.pb,VF.o.cell,VF.o.bel,AY.o⟩)
        clear t7;go_wp2_with fail;go_roundw
        case rel=>exact⟨i+1,_,_,D',S9,by go_num,zo,Qo.o⟩
        case measure=>exact zY
   have zl:=zn i (I sT)
   have P0:i=I sT:=zo
   have YZ:zH (mQ sT (I sT) ts M):=zh (by rw[<-P0];exact vl.o.so);have QA:=zh (BW.o HN.o.2 ts M YZ.o);have Qh:=ref_laid (rL:=D.rL.map (·.2)) YZ.o.run QA.o.spec (by rw[List.length_map];exact vl.o.rel.len) vl.o.rel.cL;rw[<-vl.o.rel.fL,<-vl.o.rel.last] at Qh;have TA:=zh Qh;have JC:zeY D.fL:=by rw[vl.o.rel.fL];exact vl.o.ok.f
   have AP:=zh JC;have ut:zH (∀ p∈D.rL,I p.2<=9223372036854775807):=zh (λp hp=>row_max (vl.o.pl.rr p hp));have YX:=zh vl.o.rel.bd;obtain⟨aoR,cR,kh⟩:=bJ vl.o.pl.rR;obtain⟨aoL,cL,Td⟩:=bJ vl.o.pl.lR;obtain⟨aoF,cF,Ke⟩:=bJ vl.o.pl.fR;have p0:wr.v P 0 S.vR:=by rw[zQ 0 vl.o.cell];rfl
   have p1:wr.v P 1 S.vL:=by rw[zQ 1 vl.o.cell];rfl
   have p2:wr.v P 2 S.vF:=by rw[zQ 2 vl.o.cell];rfl
   have lP:=aA vl.o.cell;have BD:=tab_begin vl.o.pl;rw[kh,Td,Ke] at BD;rw[kh] at p0;rw[Td] at p1;rw[Ke] at p2;have hbT:=vl.o.bel.trans (((zBr wr.t wr).alloc bR (Ω #[τ aoR (I D.rL) cR,τ aoL (I D.last) cL,τ aoF (I D.fL) cF,ν,ν,ν,ι 0] 116)).mono vl.o.bel.size);have BM:=Θ hbT vl.o.bel.size;have Ai:=zh BD;clear P0 Qh JC kh Td Ke BD hbT;go_upto_region 29 with fail
   generalize wr.alloc (Ω #[τ aoR (I D.rL) cR,τ aoL (I D.last) cL,τ aoF (I D.fL) cF,ν,ν,ν,ι 0] 116)=w1 at Ai BM ⊢;generalize wr.heap.size=tb at Ai BM ⊢;clear p0 p1 p2 lP;have ZJ:=BM.o.1.size
   have HK:=zh (rcut_any tb _ _ w1 Ai.o (bG (Lo ts).cL) (λx=>cuts_ref (D:=⟨D.rL,D.last,D.fL,[],[],[],0⟩) TA.o x) (kI _).1 QA.o.cl (λx hx=>(xL QA.o.rng hx).1) (by have h1:=TA.o.ln;have h2:=TA.o.le;rw[List.length_map] at h1;show I D.rL<=65;omega) ut.o YX.o);unfold bH at HK;go_upto_region 30 with (go_at_call 35;refine HK.o.mono ?_;rintro e' w2 ⟨rfl,vC,g1,g2⟩;have H2:=Θ g1 g2;clear g1 g2)
   have HGH:=zh (grow_h (D:=⟨D.rL,D.last,D.fL,bG (Lo ts).cL,[],[],0⟩) QA.o TA.o rfl AP.o ut.o);have IB:=zh (rgrow_any tb _ _ w2 H2.o.1 (Lo ts) HGH.o ⟨rfl,rfl,rfl,rfl,rfl,rfl⟩);have QV:zH (w0.u w2):=zh (BM.o.1.trans (H2.o.2.below ZJ BM.o.2));obtain⟨ml,Jn⟩:=zE (cO (Lo ts) ((bG (Lo ts).cL).map (bP (Lo ts).cL)) 202 [(1,0)] [] []);cases ml with
   | none=>
    have HV:zH (VerC Lo sT 7 (-1) (-1)):=zh (.states ts M HN.o YZ.o Jn.symm);have HK:zH (Γ 36 #[bH tb] w2 λe w'=>e=ρ (φ false)/\TKp tb w2 w'):=zh (IB.o.mono (by
     rintro e w' ⟨h1,h2⟩;rw[<-Jn] at h2;exact⟨h2,h1⟩))
    clear IB Jn;unfold bH at HK;go_wp2_with (first|(go_at_call 36;refine HK.o.mono ?_;rintro e' w3 ⟨rfl,g2⟩;have H3:=zh g2;clear g2));refine bodyPost_ret (v:=ϕ #[Φ none,ι 7,ι (-1),ι (-1)]) zzBF rfl ?_;rw[<-Ei.o];exact⟨QV.o.trans (H3.o.below QV.o.size BM.o.2),.inl ⟨7,-1,-1,HV.o,rfl⟩⟩
   | some rg=>
    obtain⟨rU,gO⟩:=rg;have Wj:=zh Jn.symm;have HK:zH (Γ 36 #[bH tb] w2 λe w'=>e=ρ (φ true)/\TKp tb w2 w'/\∃ sE S',uP (Lo ts) ((bG (Lo ts).cL).map (bP (Lo ts).cL)) (I rU) sE rU gO/\I rU=I sE/\gW tb (mD ⟨D.rL,D.last,D.fL,bG (Lo ts).cL,[],[],0⟩ (I ((Lo ts).cL)) sE gO) S' w'):=zh (IB.o.mono (by
     rintro e w' ⟨h1,h2⟩;rw[<-Jn] at h2;exact⟨h2.1,h1,h2.2⟩))
    clear IB Jn;unfold bH at HK;go_upto_region 33 with (go_at_call 36;refine HK.o.mono ?_;rintro e' w3 ⟨rfl,g2,sE,S3,g3,g4,g5⟩;have H3:=Ψ g2 g3 g4 g5;clear g2 g3 g4 g5)
    have wv:=zh (bnd_of (D:=mD ⟨D.rL,D.last,D.fL,bG (Lo ts).cL,[],[],0⟩ (I ((Lo ts).cL)) sE gO) H3.o.2.1 H3.o.2.2.1 TA.o rfl rfl rfl (zhA QA.o TA.o) QA.o.cl);have HK:=zh (ziX tb _ S3 w3 H3.o.2.2.2 _ _ _ wv.o);obtain⟨Z,hZ⟩:=zE (refB ⟨bG (Lo ts).cL,rU,gO,0⟩ (I rU) (I (bG (Lo ts).cL)) (I rU+2) (ψ (I rU) 0));rw[<-hZ] at HK;have HZ:=zh hZ;clear hZ;unfold bH at HK
    go_upto_region 34 with (go_at_call 37;refine HK.o.mono ?_;rintro e' w4 ⟨rfl,g1⟩;have Cr:=H3.o.2.2.2.below g1;have c46:=Cr.cells.2.2.2.2.2.2;have f46:=bN w4 tb 6 _ _ Cr.blk;have H4:=Θ g1 Cr;clear g1 Cr)
    have PB:=zh (H4.o.2.setB Z);have Hu:=QV.o.trans (H3.o.1.below QV.o.size BM.o.2);have Y7:zH (w0.u (ς w4 (tb.p 6) (ι Z))):=zh ((Hu.trans (H4.o.1.mono Hu.size)).trans ⟨rfl,rfl,rfl,by simp[World.setCell],λb hb=>aD _ _ _ _ (show b≠tb by have:=BM.o.2;omega)⟩);clear c46 f46 Hu;generalize w4.setCell (tb.p 6) (ι Z)=w5 at PB Y7 ⊢;go_wp2
    refine bodyPost_ret (v:=ϕ #[bH tb,ι 0,ι 0,ι 0]) (by simp[results,results18,go_sem,bH]) rfl ?_;rw[<-Ei.o];exact⟨Y7.o,.inr ⟨tb,ts,M,rU,gO,sE,_,S3,HN.o,YZ.o,Wj.o,H3.o.2.1,H3.o.2.2.1,TA.o,rfl,rfl,rfl,HZ.o,PB.o,BM.o.2,rfl⟩⟩
theorem zgZ (h:runR ts 0 mk0=some M):yU ts<=64:=by
 obtain⟨a1,_,_,a4,_⟩:=vX ts 0 mk0 M zfC rfl zd h;have:=a1.le;have:I mk0.fL=1:=rfl;omega
theorem so_good (h:mQ sT n ts M) (hn:n<=I sT):∀ t∈ts,iY 60 t:=λt ht=>by
 obtain⟨j,hj⟩:=List.mem_iff_getElem?.1 ht;have:=(List.getElem?_eq_some_iff.1 hj).1;have:=h.len;obtain⟨s,hs⟩:=zG sT j zo;obtain⟨t2,h1,h2⟩:=h.parse j s zo hs;rw[hj] at h1;cases h1;exact zdE (h.small s (zM hs)) h2
theorem zgJ:∀ {ts:List aL} {t:aL},t∈ts->gJ t<=yU ts
 | u::ts,t,h=>by
  rw[yU]
  rcases List.mem_cons.1 h with rfl|h
  . omega
  have:=zgJ h;omega
theorem zgp {K:Nat}:∀ {ts:List aL},(∀ t∈ts,nK t<=K)->pH ts<=I ts*(K+1)
 | [],_=>by simp[pH]
 | t::ts,h=>by
  have:=h t zs;have:=zgp (ts:=ts) (λu hu=>h u (by simp[hu]))
  grind [pH,Nat.succ_mul]
theorem zhn:∀ {cL:List θ},(∀ c∈cL,I c<=62)->I (cL.flatMap bX)<=I cL*124
 | [],_=>by simp
 | c::cL,h=>by
  have:=h c zs;have:=zhn (cL:=cL) (λu hu=>h u (by simp[hu]));have:I (bX c)<=2*I c:=by
   unfold bX
   induction c with
   | nil=>simp
   | cons r c ih=>
    grind
  grind
theorem zcf:∀ (ts:List aL),I (ts.flatMap kU)=yU ts
 | []=>rfl
 | t::ts=>by rw[List.flatMap_cons,zLn,qJ,zcf ts,yU]
structure zhb (ts:List aL):Prop where
 pl:yU ts<=64
 cst:pH ts<=1000000
 rng:∀ c∈ts.flatMap kU,iF c
 cU:I (fJ ([]::ts.flatMap kU))<=50000
theorem zb2 (h:mQ sT (I sT) ts M) (h8:I sT<=8):zhb ts:=by
 have hg:=so_good h bR;have XT:=zgZ h.run;have hc:∀ c∈ts.flatMap kU,GoodC c:=λc hc=>by
  obtain⟨t,ht,IU⟩:=List.mem_flatMap.1 hc;exact (hg t ht).1 c IU
 refine⟨XT,?_,λc h=>(hc c h).1,?_⟩
 . have h1:pH ts<=I ts*(5*60*64+1):=zgp λt ht=>by
    have h2:=(hg t ht).2.1;have:=zgJ ht;omega
   have:I ts<=8:=by rw[h.len];exact h8
   omega
 have h1:=zhn (cL:=[]::ts.flatMap kU) (λc Vn=>by
  rcases List.mem_cons.1 Vn with rfl|Vn
  . simp
  exact (hc c Vn).2)
 unfold fJ;rw[zLn];have h2:I cJ=6:=rfl
 grind [zcf]
theorem ready_lay (h:zhb ts):∃ f s2 L,iC f ts 0 kW kX=some (s2,L):=by
 obtain⟨s2,L,Qv⟩:=zeq (f:=pH ts*(pH ts+2)+1) (M:=pH ts) (D:=pH ts) bR ts 0 kW kX zd (by show 1+_<=65;have:=h.pl;omega) (λk j hj=>by simp[bD,kW] at hj) (by show 0+_<=_;omega) (λk=>by simp[bD,kW])
 grind
theorem cutsP_len (cL:List θ):I (bG cL)<=I (fJ cL):=
 vU _ _ (zbs (kI _).1) λx hx=>(zbR cL x).1 hx
theorem lay_ok (h:zhb ts) (h8:I ts<=8) {f:Nat} {s2:bC} (hr:iC f ts 0 kW kX=some (s2,L)):LoOk L ts:=by
 obtain⟨hS,_⟩:=laid hr;refine⟨hS,λc hc=> ?_,?_,h8⟩
 . rw[hS.cL] at hc
   rcases List.mem_cons.1 hc with rfl|hc
   . intro r hr;cases hr
   exact h.rng c hc
 rw[hS.cL]
 exact zT (cutsP_len _) h.cU
open Classical in
noncomputable def LoC (ts:List aL):iT:=if h:∃ L f s2,iC f ts 0 kW kX=some (s2,L) then Classical.choose h else⟨[],[],[]⟩
theorem zet (h:zhb ts):∃ f s2,iC f ts 0 kW kX=some (s2,LoC ts):=by
 obtain⟨f,s2,L,hr⟩:=ready_lay h;have:∃ L f s2,iC f ts 0 kW kX=some (s2,L):=⟨L,f,s2,hr⟩
 grind [LoC]
theorem loC_ok (h8:I sT<=8):∀ ts M,mQ sT (I sT) ts M->LoOk (LoC ts) ts:=λts M h=>by
 have hr:=zb2 h h8;obtain⟨f,s2,Qv⟩:=zet hr;exact lay_ok hr (by rw[h.len];exact h8) Qv
theorem so_cst (h:mQ sT n ts M) (hn:n<=I sT) (h8:I sT<=8):pH ts<=200000:=by
 have hg:=so_good h hn;have:=zgZ h.run;have:pH ts<=I ts*(5*60*64+1):=zgp λt ht=>by
  have:=(hg t ht).2.1;have:=zgJ ht;omega
 have:I ts<=8:=by rw[h.len];omega
 omega
theorem so_laid (h:mQ sT n ts M) (hn:n<=I sT) (h8:I sT<=8) {R:qX}:
 ∃ f s2 L,pK s2/\I s2.cL=I M.fL/\I s2.cL<=65/\(∀ k,I (bD s2.kN k)<=200000)/\(uR f sT R n s2 L->uR f sT R 0 kW kX):=by
 have hc:=so_cst h hn h8;have:=zgZ h.run;obtain⟨s2,L,Qv⟩:=zeq (f:=pH ts*(pH ts+2)+1) (M:=pH ts) (D:=pH ts) bR ts 0 kW kX zd (by show 1+_<=65;omega) (λk j hj=>by simp[bD,kW] at hj) (by show 0+_<=_;omega) (λk=>by simp[bD,kW]);obtain⟨_,_,hk,hd,hl⟩:=laid Qv;obtain⟨_,_,_,a4,_⟩:=vX ts 0 mk0 M zfC rfl zd h.run;have:I mk0.fL=1:=rfl;have hS:pK s2:=⟨λk=>zT (hd k) zo,zo,zo⟩
 refine⟨_,s2,L,hS,zo,zo,λk=>zT (hd k) hc,λhv=>zep ts 0 kW kX s2 L Qv (λj t hj=> ?_) hS (by rw[Nat.zero_add,h.len];exact hv)⟩;have:=pO hj;have:=h.len;obtain⟨str,hs⟩:=zG sT j zo;obtain⟨t2,h1,h2⟩:=h.parse j str zo hs
 grind
theorem lay_parse {er:mP} (h8:I sT<=8) (hf:mQ sT i ts M) (hs:sT[i]?=some s) (he:iE s=.error er):
 ∃ f,uR f sT (.err er.1 i er.2) 0 kW kX:=by
 have:=pO hs;obtain⟨f,s2,L,_,_,_,_,hv⟩:=so_laid (R:=.err er.1 i er.2) hf zo h8;exact⟨f,hv (.parse hs (zhe (hf.small s (zM hs))) he rfl)⟩
theorem lay_full {t:aL} (h8:I sT<=8) (hf:mQ sT i ts M) (hs:sT[i]?=some s) (ht:iE s=.ok t) (ho:(fP t M).2.on=true):
 ∃ f,uR f sT (.err 6 i 0) 0 kW kX:=by
 have:=pO hs;obtain⟨f,s2,L,_,h1,h2,h3,hv⟩:=so_laid (R:=.err 6 i 0) hf zo h8;obtain⟨a1,a2,_,a4,_⟩:=vX ts 0 mk0 M zfC rfl zd hf.run;have Ej:65<I s2.cL+gJ t:=by
  rcases zLg 65 (I M.fL+gJ t) with h|h
  . omega
  have:=(qQ t M a1 a2 h).on
  grind
 have:=(zdE (hf.small s (zM hs)) ht).2.2 (I s2.cL) h2;have:5*60*(66-I s2.cL)<=5*60*66:=Nat.mul_le_mul_left _ zo;refine⟨f,hv (.full hs ht (layT_none (s:=s2.push ⟨[],0,false⟩) h2 Ej) ⟨h2,λk=> ?_⟩ rfl)⟩;have:=h3 k;have:I (bD (s2.push ⟨[],0,false⟩).kN k)<=I (bD s2.kN k):=by
  show I (bD (s2.kN++[⟨[],0,false⟩]) k)<=_
  rcases zLg k (I s2.kN) with h|h
  . grind [bD]
  grind [bD]
 omega
theorem lay_all (h8:I sT<=8) (hf:mQ sT (I sT) ts M):∃ f s2,iC f ts 0 kW kX=some (s2,LoC ts)/\pK s2/\uR f sT (.ok s2 (LoC ts)) 0 kW kX:=by
 have hr:=zb2 hf h8;obtain⟨f,s2,Qv⟩:=zet hr;obtain⟨_,_,hk,hd,hl⟩:=laid Qv;have:=hr.cst;have:=hr.pl;have hS:pK s2:=⟨λk=>zT (hd k) zo,zo,zo⟩;refine⟨f,s2,Qv,hS,zep ts 0 kW kX s2 _ Qv (λj t hj=> ?_) hS (.done (by rw[Nat.zero_add,hf.len]) rfl)⟩;have:=pO hj;have:=hf.len;obtain⟨str,hs⟩:=zG sT j zo;obtain⟨t2,h1,h2⟩:=hf.parse j str zo hs
 grind
inductive GRes where
 | err (e:Nat) (i k:Int)
 | done (ts:List aL) (M:Mk)
def goV:List η->Nat->List aL->Mk->GRes
 | [],_,ts,M=>.done ts M
 | s::r,i,ts,M=>
  match iE s with
  | .error er=>.err er.1 i er.2
  | .ok t=>if (fP t M).2.on=true then .err 6 i 0 else goV r (i+1) (ts++[t]) ((fP t M).2.fin (fP t M).1 i)
inductive VRes where
 | err (e:Nat) (i k:Int)
 | ok (ts:List aL) (rU:List Int) (gO:List (List Int))
noncomputable def verP (sT:List η):VRes:=
 if I sT<1\/8<I sT then .err 1 (-1) (-1)
 else match sT.findIdx? (λs=>decide (60<s.size)) with
  | some i=>.err 1 i 0
  | none=>match goV sT 0 [] mk0 with
   | .err e i k=>.err e i k
   | .done ts _=>match cO (LoC ts) ((bG (LoC ts).cL).map (bP (LoC ts).cL)) 202 [(1,0)] [] [] with
    | none=>.err 7 (-1) (-1)
    | some rg=>.ok ts rg.1 rg.2
theorem goV_run:∀ (ts:List aL) (l:List η) (i:Nat) (ts0:List aL) (M M2:Mk),runR ts i M=some M2->(∀ (j:Nat) (t:aL),ts[j]?=some t->∃ s,l[j]?=some s/\iE s=.ok t)->
 goV l i ts0 M=goV (l.drop (I ts)) (i+I ts) (ts0++ts) M2
 | [],l,i,ts0,M,M2,h,_=>by
  grind [runR]
 | t::ts,l,i,ts0,M,M2,h,hp=>by
  rw[runR] at h;split at h
  . cases h
  rename_i Qr
  obtain⟨s,hs,ht⟩:=hp 0 t rfl;cases l with
  | nil=>cases hs
  | cons u l=>
   cases hs;rw[goV,ht];dsimp only;rw[zN Qr,goV_run ts l (i+1) (ts0++[t]) _ _ h (λj t2 hj=>by
    obtain⟨s2,h1,h2⟩:=hp (j+1) t2 hj
    grind)]
   grind
section
variable {sT:List η} {i:Nat} {ts:List aL} {M:Mk}
theorem zh7 (h:mQ sT i ts M) (hi:i<=I sT):goV sT 0 [] mk0=goV (sT.drop i) i ts M:=by
 have:=h.len;have:=goV_run ts sT 0 [] mk0 M h.run (λj t hj=>by
  have:=pO hj;obtain⟨s,hs⟩:=zG sT j zo;obtain⟨t2,h1,h2⟩:=h.parse j s zo hs
  grind)
 grind
theorem zhr {α:Type} {l:List α} {x:α} (h:l[i]?=some x):l.drop i=x::l.drop (i+1):=by
 grind [List.drop_eq_getElem_cons]
end
theorem zeN (h:∀ s∈sT,s.size<=60):sT.findIdx? (λs=>decide (60<s.size))=none:=by
 grind
theorem ver_of {e:Nat} {i k:Int} (h:VerC LoC sT e i k):verP sT=.err e i k:=by
 unfold verP;cases h with
 | count h=>grind
 | size i s h hs hb hf=>
  grind [pO,List.findIdx?_eq_some_iff_getElem]
 | parse i s ts M er h hf hs he h0=>
  rw[zN zo,zeN hf.small];dsimp only;rw[zh7 hf zg,zhr hs,goV,he]
 | full i s ts M t h hf hs ht ho=>
  rw[zN zo,zeN hf.small];dsimp only;rw[zh7 hf zg,zhr hs,goV,ht]
  grind
 | states ts M h hf hm=>
  exact zzCu
theorem ver_ok (h:1<=I sT/\I sT<=8) (hf:mQ sT (I sT) ts M)
 (hm:cO (LoC ts) ((bG (LoC ts).cL).map (bP (LoC ts).cL)) 202 [(1,0)] [] []=some (rU,gO)):verP sT=.ok ts rU gO:=by
 unfold verP;exact zzCu
