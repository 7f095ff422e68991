/- Part of a proof. No condition. -/
import Derived.Test.YtghpmhllpaheiaaGreatDoorF35
import Derived.Test.YtghpmhllpaheiaaGreatDoorF30
set_option linter.unusedVariables false
set_option linter.unusedSimpArgs false
set_option maxRecDepth 100000
set_option maxHeartbeats 16000000
namespace Go.Proofs.YtghpmhllpaheiaaGreatDoor
open Go.RowKit Go.Lib
variable {a l O:List (Int×Int)} {r:Int×Int} {q p k i v:Nat} {c N:Int} {s:ByteArray} {x:Pr} {er:jU}
def yX (l:List (Int×Int)) (c:Int):Prop:=∃ r∈l,r.1<=c/\c<=r.2
def jJ (l:List (Int×Int)) (z:Int):Prop:=∃ r∈l,z=r.1\/(r.2<1114111/\z=r.2+1)
structure lF (a b:List (Int×Int)):Prop where
 inr:∀ c,cH c=true->(yX a c↔yX b c)
 cut:∀ z,z∉bX->(jJ a z↔jJ b z)
theorem lF.refl (a:List (Int×Int)):lF a a:=⟨λ_ _=>Iff.rfl,λ_ _=>Iff.rfl⟩
structure qJ (a:List (Int×Int)):Prop where
 ne:∀ r∈a,0<=r.1/\r.1<=r.2/\r.2<=1114111
 sep:∀ r∈a,∀ q∈a,r=q\/r.2+1<q.1\/q.2+1<r.1
 lo:∀ r∈a,cH r.1=true\/r.1∈bX
 hi:∀ r∈a,cH (r.2+1)=true\/r.2+1∈bX\/1114111<=r.2
theorem dS (c:Int):cH c=true↔(0<=c/\c<55296)\/(57343<c/\c<=1114111):=by
 simp[cH]
theorem qY (c:Int):c∈bX↔c=0\/c=128\/c=2048\/c=55296\/c=57344\/c=65536:=by
 simp[bX]
theorem qJ.cut (h:qJ a) {z:Int} (hz:z∉bX):jJ a z↔cH z=true/\((yX a z/\¬ yX a (z-1))\/(¬ yX a z/\yX a (z-1))):=by
 rw[qY] at hz;constructor
 . rintro⟨r,hr,hc⟩
   have qo:=h.ne r hr
   rcases hc with rfl|⟨h1,rfl⟩
   . refine⟨?_,.inl ⟨⟨r,hr,by omega,by omega⟩,?_⟩⟩
     . rcases h.lo r hr with e|e
       . exact e
       rw[qY] at e;omega
     rintro⟨q,hq,h2,h3⟩
     rcases h.sep r hr q hq with e|e|e
     . subst e;omega
     . have:=h.ne q hq;omega
     omega
   refine⟨?_,.inr ⟨?_,r,hr,by omega,by omega⟩⟩
   . rcases h.hi r hr with e|e|e
     . exact e
     . rw[qY] at e;omega
     omega
   rintro⟨q,hq,h2,h3⟩
   rcases h.sep r hr q hq with e|e|e
   . subst e;omega
   . omega
   have:=h.ne q hq;omega
 rintro⟨hv,⟨⟨r,hr,h1,h2⟩,hn⟩|⟨hn,r,hr,h1,h2⟩⟩
 . refine⟨r,hr,.inl ?_⟩
   rcases (by omega:z-1<r.1\/r.1<=z-1) with e|e
   . omega
   exact absurd ⟨r,hr,e,by omega⟩ hn
 refine⟨r,hr,.inr ?_⟩
 rw[dS] at hv
 rcases (by omega:r.2<z\/z<=r.2) with e|e
 . omega
 exact absurd ⟨r,hr,by omega,e⟩ hn
theorem apart_eq {b:List (Int×Int)} (ha:qJ a) (hb:qJ b) (h:∀ c,cH c=true->(yX a c↔yX b c)):lF a b:=by
 refine⟨h,λz hz=> ?_⟩;rw[ha.cut hz,hb.cut hz];refine and_congr_right λhv=> ?_;have Tv:cH (z-1)=true:=by
  rw[qY] at hz;rw[dS] at hv ⊢;omega
 rw[h z hv,h (z-1) Tv]
theorem inR_cut (c:Int):yX (cutP a r) c↔yX a c/\¬ (r.1<=c/\c<=r.2):=by
 unfold yX cutP;constructor
 . rintro⟨q,hq,h1,h2⟩
   rw[List.mem_flatMap] at hq;obtain⟨x,hx,hq⟩:=hq;split at hq
   . rename_i hc
     rw[zMs] at hq;subst hq;exact⟨⟨q,hx,h1,h2⟩,by omega⟩
   rename_i hc
   rw[zMa] at hq
   rcases hq with hq|hq
   . split at hq
     . rw[zMs] at hq
       subst hq;dsimp only at h1 h2;exact⟨⟨x,hx,h1,by omega⟩,by omega⟩
     cases hq
   split at hq
   . rw[zMs] at hq
     subst hq;dsimp only at h1 h2;exact⟨⟨x,hx,by omega,h2⟩,by omega⟩
   cases hq
 rintro⟨⟨x,hx,h1,h2⟩,hn⟩
 by_cases hc:x.2<r.1\/x.1>r.2
 . exact⟨x,List.mem_flatMap.2 ⟨x,hx,by rw[zP hc];simp⟩,h1,h2⟩
 rcases (by omega:c<r.1\/r.1<=c) with e|e
 . refine⟨(x.1,r.1-1),List.mem_flatMap.2 ⟨x,hx,?_⟩,h1,by dsimp only;omega⟩
   rw[zN hc,zP (by omega)];simp
 refine⟨(r.2+1,x.2),List.mem_flatMap.2 ⟨x,hx,?_⟩,by dsimp only;omega,h2⟩
 rw[zN hc,zP (show x.2>r.2 by omega)];simp
theorem vK {q:Int×Int} (h:q∈cutP a r):∃ x∈a,x.1<=q.1/\q.2<=x.2/\(q.1=x.1\/(q.1=r.2+1/\r.2<x.2))/\(q.2=x.2\/(q.2=r.1-1/\x.1<r.1))/\(x.1<=x.2->r.1<=r.2->q.1<=q.2/\(q.2<r.1\/r.2<q.1)):=by
 unfold cutP at h;rw[List.mem_flatMap] at h;obtain⟨x,hx,hq⟩:=h;refine⟨x,hx,?_⟩;split at hq
 . rename_i hc
   rw[zMs] at hq;subst hq;exact⟨Int.le_refl _,Int.le_refl _,.inl rfl,.inl rfl,λh1 _=>⟨h1,by omega⟩⟩
 rename_i hc
 rw[zMa] at hq
 rcases hq with hq|hq
 . split at hq
   . rename_i h1
     rw[zMs] at hq;subst hq;dsimp only;exact⟨Int.le_refl _,by omega,.inl rfl,.inr ⟨rfl,h1⟩,λ_ _=>by omega⟩
   cases hq
 split at hq
 . rename_i h1
   rw[zMs] at hq;subst hq;dsimp only;exact⟨by omega,Int.le_refl _,.inr ⟨rfl,by omega⟩,.inl rfl,λ_ _=>by omega⟩
 cases hq
theorem zbQ (h:cH c=true):cH (c+1)=true\/c+1∈bX\/1114111<=c:=by
 rw[dS] at h;rw[dS,qY];omega
theorem qJ.cutP (h:qJ a) (h1:r.1<=r.2) (Tv:cH r.1=true) (Ku:cH r.2=true):qJ (cutP a r):=by
 refine⟨λq hq=> ?_,λq hq q' Dr=> ?_,λq hq=> ?_,λq hq=> ?_⟩
 . obtain⟨x,hx,k1,k2,_,_,k5⟩:=vK hq
   have:=h.ne x hx;have:=k5 (by omega) h1;omega
 . obtain⟨x,hx,k1,k2,k3,k4,k5⟩:=vK hq
   obtain⟨x',wJ,l1,l2,l3,l4,l5⟩:=vK Dr;have n1:=h.ne x hx;have n2:=h.ne x' wJ;have m1:=k5 (by omega) h1;have m2:=l5 (by omega) h1
   rcases h.sep x hx x' wJ with e|e|e
   . subst e
     by_cases e1:q.1=q'.1
     . by_cases e2:q.2=q'.2
       . exact .inl (Prod.ext e1 e2)
       omega
     omega
   . omega
   omega
 . obtain⟨x,hx,_,_,k3,_,_⟩:=vK hq
   rcases k3 with e|⟨e,h9⟩
   . rw[e];exact h.lo x hx
   rw[e]
   rcases zbQ Ku with h2|h2|h2
   . exact .inl h2
   . exact .inr h2
   have:=h.ne x hx;omega
 obtain⟨x,hx,_,_,_,k4,_⟩:=vK hq
 rcases k4 with e|⟨e,_⟩
 . rw[e];exact h.hi x hx
 rw[e,show r.1-1+1=r.1 by omega];exact .inl Tv
def sS (l:List (Int×Int)):Prop:=∀ r∈l,r.1<=r.2/\cH r.1=true/\cH r.2=true
theorem zbH:∀ (l a:List (Int×Int)),qJ a->sS l->qJ (l.foldl cutP a)/\∀ c,yX (l.foldl cutP a) c↔yX a c/\¬ yX l c
 | [],a,h,_=>⟨h,λc=>⟨λh=>⟨h,fun⟨r,hr,_⟩=>by cases hr⟩,λh=>h.1⟩⟩
 | r::l,a,h,hl=>by
  have hr:=hl r List.mem_cons_self;obtain⟨h1,h2⟩:=zbH l (cutP a r) (h.cutP hr.1 hr.2.1 hr.2.2) (λq hq=>hl q (List.mem_cons_of_mem _ hq));refine⟨h1,λc=> ?_⟩;rw[List.foldl_cons,h2,inR_cut];constructor
  . rintro⟨⟨k1,k2⟩,k3⟩
    refine⟨k1,?_⟩;rintro⟨q,hq,h3⟩
    rcases List.mem_cons.1 hq with rfl|hq
    . exact k2 h3
    exact k3 ⟨q,hq,h3⟩
  rintro⟨k1,k2⟩
  exact⟨⟨k1,λh3=>k2 ⟨r,List.mem_cons_self,h3⟩⟩,fun⟨q,hq,h3⟩=>k2 ⟨q,List.mem_cons_of_mem _ hq,h3⟩⟩
theorem za6 (hl:sS l):qJ (iL l)/\∀ c,cH c=true->(yX (iL l) c↔¬ yX l c):=by
 have h0:qJ [(0,55295),(57344,1114111)]:=by
  refine⟨λr hr=> ?_,λr hr q hq=> ?_,λr hr=> ?_,λr hr=> ?_⟩
  . simp at hr;rcases hr with rfl|rfl<;>decide
  . simp at hr hq;rcases hr with rfl|rfl<;>rcases hq with rfl|rfl<;>decide
  . simp at hr;rcases hr with rfl|rfl<;>decide
  simp at hr;rcases hr with rfl|rfl<;>decide
 obtain⟨h1,h2⟩:=zbH l _ h0 hl;refine⟨h1,λc hc=> ?_⟩;unfold iL;rw[h2];constructor
 . exact λh=>h.2
 intro h
 refine⟨?_,h⟩;rw[dS] at hc
 rcases hc with hc|hc
 . exact⟨(0,55295),by simp,by dsimp only;omega,by dsimp only;omega⟩
 exact⟨(57344,1114111),by simp,by dsimp only;omega,by dsimp only;omega⟩
theorem rest_in:∀ (l a:List (Int×Int)),(∀ q∈a,q.2<=55295\/57344<=q.1)->∀ q∈l.foldl cutP a,q.2<=55295\/57344<=q.1
 | [],a,h=>h
 | r::l,a,h=>by
  rw[List.foldl_cons];refine rest_in l _ λq hq=> ?_;obtain⟨x,hx,k1,k2,_⟩:=vK hq;have:=h x hx;omega
theorem zfT (hl:sS l):∀ q∈iL l,cH q.1=true:=λq hq=>by
 have h1:=(za6 hl).1.ne q hq;have h2:=rest_in l [(0,55295),(57344,1114111)] (λq hq=>by simp at hq;rcases hq with rfl|rfl<;>decide) q hq;rw[dS];omega
theorem rhex_any (b:Nat) (hb:b<256) (w:World):Calls Tryz.prog 180 #[.int .u8 b] w λe w'=>e=.returned (.int .i64 (match mX b with|some h=>(h:Int)|none=> -1))/\w'=w:=by
 by_cases h1:48<=b
 . by_cases h2:b<=57
   . have e:mX b=some (b-48):=by unfold mX;rw[zP ⟨h1,h2⟩]
     rw[e];have z1:(48:Int)<=(b:Int):=by omega
     have z2:(b:Int)<=57:=by omega
     have z3:((b-48:Nat):Int)=(b:Int)-48:=by omega
     simp only[z3];clear z3 e;go_enter Tryz.func180,Tryz.ntmps180;go_wp2_with (fail);go_ret;exact⟨rfl,rfl⟩
   have z1:(48:Int)<=(b:Int):=by omega
   have z2:¬ (b:Int)<=57:=by omega
   by_cases h3:65<=b
   . have z3:(65:Int)<=(b:Int):=by omega
     by_cases h4:b<=70
     . have e:mX b=some (b-55):=by unfold mX;rw[zN (by omega),zN (by omega),zP ⟨h3,h4⟩]
       rw[e];have z4:(b:Int)<=70:=by omega
       have z5:¬ (97:Int)<=(b:Int):=by omega
       have z6:((b-55:Nat):Int)=(b:Int)-65+10:=by omega
       simp only[z6];clear z6 e;go_enter Tryz.func180,Tryz.ntmps180;go_wp2_with (fail);go_ret;exact⟨rfl,rfl⟩
     have z4:¬ (b:Int)<=70:=by omega
     by_cases h5:97<=b
     . have z5:(97:Int)<=(b:Int):=by omega
       by_cases h6:b<=102
       . have e:mX b=some (b-87):=by unfold mX;rw[zN (by omega),zP ⟨h5,h6⟩]
         rw[e];have z6:(b:Int)<=102:=by omega
         have z7:((b-87:Nat):Int)=(b:Int)-97+10:=by omega
         simp only[z7];clear z7 e;go_enter Tryz.func180,Tryz.ntmps180;go_wp2_with (fail);go_ret;exact⟨rfl,rfl⟩
       have e:mX b=none:=by unfold mX;rw[zN (by omega),zN (by omega),zN (by omega)]
       rw[e];have z6:¬ (b:Int)<=102:=by omega
       clear e;go_enter Tryz.func180,Tryz.ntmps180;go_wp2_with (fail);go_ret;exact⟨rfl,rfl⟩
     have e:mX b=none:=by unfold mX;rw[zN (by omega),zN (by omega),zN (by omega)]
     rw[e];have z5:¬ (97:Int)<=(b:Int):=by omega
     clear e;go_enter Tryz.func180,Tryz.ntmps180;go_wp2_with (fail);go_ret;exact⟨rfl,rfl⟩
   have e:mX b=none:=by unfold mX;rw[zN (by omega),zN (by omega),zN (by omega)]
   rw[e];have z3:¬ (65:Int)<=(b:Int):=by omega
   have z5:¬ (97:Int)<=(b:Int):=by omega
   clear e;go_enter Tryz.func180,Tryz.ntmps180;go_wp2_with (fail);go_ret;exact⟨rfl,rfl⟩
 have e:mX b=none:=by unfold mX;rw[zN (by omega),zN (by omega),zN (by omega)]
 rw[e];have z1:¬ (48:Int)<=(b:Int):=by omega
 have z3:¬ (65:Int)<=(b:Int):=by omega
 have z5:¬ (97:Int)<=(b:Int):=by omega
 clear e;go_enter Tryz.func180,Tryz.ntmps180;go_wp2_with (fail);go_ret;exact⟨rfl,rfl⟩
def OkR (s:ByteArray) (x y:Pr) (r:Except jU Nat):Prop:=
 match r with
 | .ok q=>y={x with aQ:=q}/\x.aQ<=q/\q<=s.size
 | .error e=>∃ q,x.aQ<=q/\q<=s.size/\y={x with aQ:=q,e:=e.1,wh:=e.2}
def CountO (B pb:Nat) (s:ByteArray) (x:Pr) (lv:Value) (w:World) (e:Ending) (w':World):Prop:=
 ∃ (v:Int) (q:Nat),e=.returned (.int .i64 v)/\PrO B pb s {x with aQ:=q} lv w w'/\x.aQ<=q/\q<=s.size/\((v= -1/\∀ k,∃ er,dX s x.aQ k=.error er/\er=(4,k))\/∃ n:Nat,v=(n:Int)/\n<100/\∀ k,dX s x.aQ k=.ok (n,q))
theorem count_any (B pb:Nat) (s:ByteArray) (x:Pr) (lv:Value) (w:World) (h:eW B pb s x lv w):
 Calls Tryz.prog 176 #[bJ pb] w (CountO B pb s x lv w):=by
 have HP:=zh h;have hz:=h.sz;clear h;unfold bJ;go_enter Tryz.func176,Tryz.ntmps176;go_wp2_with (fail);go_loopw [3,4] (λs3 s4 wr=>∃ i:Nat,s4=.int .i64 i/\s3=.int .i64 (yS s x.aQ i:Nat)/\i<=2/\(∀ j,j<i->dig s (x.aQ+j)=true)/\x.aQ+i<=s.size/\eW B pb s {x with aQ:=x.aQ+i} lv wr/\PK pb lv lv w wr) (λ_ s4 _=>2-(RowKit.intOf s4).toNat)
 case atStart=>exact⟨0,rfl,rfl,by omega,λj hj=>by omega,hz.2.1,HP.o,PK.refl _ _ _⟩
 case round=>
  obtain⟨i,rfl,rfl,hi,hd,Ju,hp,hk⟩:=hrel;obtain⟨c0,c1,_⟩:=hp.cells;dsimp only at c1;have yc:=zh (zAi hp (zAi hk hd));have wF:yS s x.aQ i<=99:=by
   rcases (by omega:i=0\/i=1\/i=2) with rfl|rfl|rfl
   . exact (by decide:(0:Nat)<=99)
   . have h0:=hd 0 (by omega)
     simp only[dig,Bool.and_eq_true,decide_eq_true_eq,Nat.add_zero] at h0;show cE s x.aQ-48<=99;omega
   have h0:=hd 0 (by omega)
   have h1:=hd 1 (by omega);simp only[dig,Bool.and_eq_true,decide_eq_true_eq,Nat.add_zero] at h0 h1;show 10*(cE s x.aQ-48)+(cE s (x.aQ+1)-48)<=99;omega
  clear hp hk hd;obtain⟨q,hq⟩:=zE (x.aQ+i);rw[<-hq] at c1 Ju yc;have HQ:=zh hq;clear hq;have Hz:=mT s q;by_cases NB:dig s q=true
  . obtain⟨g1,g2,g3⟩:=zdO NB
    have zq:(q:Int)<(s.size:Int):=by omega
    have z48:(48:Int)<=(cE s q:Int):=by omega
    have z57:(cE s q:Int)<=57:=by omega
    have vl:=fP s q g1;have QN:∀ j,j<i+1->dig s (x.aQ+j)=true:=λj hj=>by
     rcases zLg j i with h|h
     . exact yc.o.2.2 j h
     obtain rfl:j=i:=by omega
     rw[<-HQ.o];exact NB
    have J7:=zh QN;clear QN NB;by_cases h2:i=2
    . have z2:(i:Int)=2:=by omega
      subst h2;clear z2;go_wp2_with (fail);go_quiet (fail);go_wp2_with (fail);go_ret;refine⟨-1,q,rfl,⟨yc.o.1.below (aV (zBr _ wr) _),yc.o.2.1.trans (PK.of_below (aV (zBr _ wr) _))⟩,by have:=HQ.o;omega,Ju,.inl ⟨rfl,λk=>⟨_,zaY J7.o,rfl⟩⟩⟩
    have z2:((i:Int)==2)=false:=by simp;omega
    have Xe:=zW i (by omega);have QO:=zW q (by omega);have U9:=zdx s x.aQ i (by omega);rw[<-HQ.o] at U9;have Mf:=zh U9;clear U9;generalize yS s x.aQ i=v at wF Mf ⊢;have YG:IntKind.i64.wrap (10*(v:Int))=10*(v:Int):=zIn _ (by omega);have OZ:IntKind.i64.wrap (10*(v:Int)+((cE s q:Int)-48))=10*(v:Int)+((cE s q:Int)-48):=zIn _ ⟨by omega,by omega⟩
    have qb:=λw9 (hb:Below wr.heap.size wr w9)=>(yc.o.1.below hb).set 1 (.int .i64 ((q:Int)+1)) {x with aQ:=q+1} (by simp) rfl ⟨by show q+1<=s.size;omega,yc.o.1.sz.2.2.1,yc.o.1.sz.2.2.2⟩;have Yf:=zh qb;clear qb;go_wp2_with (fail);go_quiet (fail);have yj:Below wr.heap.size wr (wr.drewN nq):=aV (zBr _ wr) _;have Qy:=yc.o.1.below yj;generalize wr.drewN nq=w2 at yj Qy ⊢;have QH:=zh yj;obtain⟨d0,d1,_⟩:=Qy.cells;dsimp only at d1;clear yj Qy c0 c1;go_wp2_with (fail);go_quiet (fail)
    have Lg:Below wr.heap.size wr (w2.drewN nq):=aV QH.o _;have yx:=yc.o.1.below Lg;generalize w2.drewN nq=w3 at Lg yx ⊢;have V1:=zh Lg;obtain⟨d0',d1',_⟩:=yx.cells;dsimp only at d1';have f3:=aM w3 pb 1 _ _ yx.blk;clear Lg yx d0 d1;go_wp2_with (fail);go_roundw
    case rel=>exact⟨i+1,by go_num,by rw[Mf.o];go_num,by omega,J7.o,by have:=HQ.o;omega,by rw[show x.aQ+(i+1)=q+1 by have:=HQ.o;omega];exact Yf.o _ V1.o,yc.o.2.1.trans ((PK.of_below V1.o).trans (PK.set 1 _))⟩
    case measure=>(simp[zI]<;>omega)
  have TK:dig s q=false:=by simpa using NB
  have Hl:∀ k,dX s x.aQ k=if i=0 then .error (4,k) else .ok (yS s x.aQ i,x.aQ+i):=λk=>pQ hi yc.o.2.2 (by rw[<-HQ.o];exact TK)
  have Hq:=zh Hl;have Xi:decide (q<s.size)=false\/((q:Int)<(s.size:Int)/\(decide ((48:Int)<=(cE s q:Int))=false\/((48:Int)<=(cE s q:Int)/\decide ((cE s q:Int)<=57)=false))):=by
   unfold dig at TK;simp only[Bool.and_eq_false_iff,decide_eq_false_iff_not] at TK ⊢;omega
  clear Hl TK NB;by_cases h0:i=0
  . subst h0
    rcases Xi with y|⟨y,y48|⟨y48,y57⟩⟩
    all_goals
     try have vl:=fP s q (by omega)
     go_wp2_with (fail);go_quiet (fail);go_wp2_with (fail);go_ret;exact⟨-1,q,rfl,⟨yc.o.1.below (aV (zBr _ wr) _),yc.o.2.1.trans (PK.of_below (aV (zBr _ wr) _))⟩,by have:=HQ.o;omega,Ju,.inl ⟨rfl,λk=>⟨_,Hq.o k,rfl⟩⟩⟩
  have z0:((i:Int)==0)=false:=by simp;omega
  obtain⟨v,hv⟩:=zE (yS s x.aQ i);rw[<-hv] at wF ⊢;have HV:=zh hv;clear hv
  rcases Xi with y|⟨y,y48|⟨y48,y57⟩⟩
  all_goals
   try have vl:=fP s q (by omega)
   go_wp2_with (fail);go_quiet (fail);go_wp2_with (fail);go_ret;exact⟨v,q,rfl,⟨yc.o.1.below (aV (zBr _ wr) _),yc.o.2.1.trans (PK.of_below (aV (zBr _ wr) _))⟩,by have:=HQ.o;omega,Ju,.inr ⟨v,rfl,by omega,λk=>by rw[Hq.o k,zN h0,HV.o,HQ.o]⟩⟩
def lZ (s:ByteArray) (k i q v:Nat):Except jU (Int×Nat):=
 match cX s k (8-i) q v i with
 | .error e=>.error e
 | .ok (v,d,q)=>if d≠0/\pO s q 125=true/\((v<55296)\/(57343<v/\v<=1114111)) then .ok (v,q+1) else .error (2,k)
theorem zdJ (h:pO s p 123=true):dZ s p k=lZ s k 0 (p+1) 0:=by
 unfold dZ lZ;rw[zP h];rfl
theorem zfs (hi:i<=7) (h:¬ q<s.size):lZ s k i q v=.error (2,k):=by
 unfold lZ;obtain⟨f,hf⟩:∃ f,8-i=f+1:=⟨7-i,by omega⟩;rw[hf,cX,zN (by simp[h])];simp only;rw[zN (λhh=>h (rM hh.2.1).1)]
theorem coded_hex {x:Nat} (hi:i<6) (h:q<s.size) (hx:mX (cE s q)=some x):lZ s k i q v=lZ s k (i+1) (q+1) (16*v+x):=by
 have hb:cE s q≠125:=λe=>by rw[e] at hx;simp[mX] at hx
 have hf:8-i=(8-(i+1))+1:=by omega
 have e:cX s k (8-i) q v i=cX s k (8-(i+1)) (q+1) (16*v+x) (i+1):=by
  rw[hf,cX,zP (by simp[h,hb]),hx];simp only;rw[zN (by omega)]
 unfold lZ;rw[e]
theorem zdI {x:Nat} (h:q<s.size) (hx:mX (cE s q)=some x):lZ s k 6 q v=.error (2,k):=by
 have hb:cE s q≠125:=λe=>by rw[e] at hx;simp[mX] at hx
 have e:cX s k (8-6) q v 6=.error (2,k):=by
  rw[show 8-6=1+1 from rfl,cX,zP (by simp[h,hb]),hx];rfl
 unfold lZ;rw[e]
theorem zft (hi:i<=7) (h:q<s.size) (hx:mX (cE s q)=none):
 lZ s k i q v=if cE s q=125/\i≠0/\((v<55296)\/(57343<v/\v<=1114111)) then .ok (v,q+1) else .error (2,k):=by
 unfold lZ;obtain⟨f,hf⟩:∃ f,8-i=f+1:=⟨7-i,by omega⟩;rw[hf,cX];by_cases hb:cE s q=125
 . rw[zN (by simp[hb])]
   simp only;have:pO s q 125=true:=by unfold pO;simp[h,hb]
   rw[this];simp[hb]
 rw[zP (by simp[h,hb]),hx,zN (λhh=>hb hh.1)]
def ScalO (B pb:Nat) (s:ByteArray) (x:Pr) (res:Except jU (Int×Nat)) (lv:Value) (w:World) (e:Ending) (w':World):Prop:=
 ∃ (v:Int) (y:Pr),e=.returned (.int .i64 v)/\PrO B pb s y lv w w'/\ -1<=v/\v<=1114111/\OkR s x y (res.map (·.2))/\∀ c q,res=.ok (c,q)->v=c
theorem zfQ (B pb:Nat) (s:ByteArray) (x:Pr) (lv:Value) (w:World) (h:eW B pb s x lv w) (he:x.e=0) (k:Nat) (hk:k<=60):
 Calls Tryz.prog 179 #[bJ pb,.int .i64 k] w (ScalO B pb s x (dZ s x.aQ k) lv w):=by
 have HE:=zh he;have HP:=zh h;have hz:=h.sz;obtain⟨c0,c1,_⟩:=h.cells;have NC:∀ (q:Nat) (w1:World),x.aQ<=q->q<=s.size->eW B pb s {x with aQ:=q} lv w1->PK pb lv lv w w1->dZ s x.aQ k=.error (2,k)->Calls Tryz.prog 126 #[bJ pb,.int .i64 (2:Nat),.int .i64 k] w1 λe' w'=>e'=.returned (.tuple #[])/\ScalO B pb s x (dZ s x.aQ k) lv w (.returned (.int .i64 0)) w':=by
  intro q w1 h1 h2 h3 h4 h5;refine (gP B pb s {x with aQ:=q} lv w1 h3 2 k (by omega) hk).mono ?_;rintro e' w' ⟨rfl,Kr,JX⟩;have hy:eH {x with aQ:=q} 2 k={x with aQ:=q,e:=2,wh:=k}:=by unfold eH;rw[zP HE.o]
  rw[hy] at Kr;refine⟨rfl,0,_,rfl,⟨Kr,h4.trans JX⟩,by decide,by decide,?_,λc q' hh=> ?_⟩
  . rw[h5]
    exact⟨q,h1,h2,rfl⟩
  rw[h5] at hh;cases hh
 have nh:=zh NC;clear h he NC;by_cases hb:pO s x.aQ 123=true
 . obtain⟨g1,g2⟩:=rM hb
   have Hq:=zh (zdJ (k:=k) hb);have vl:=fP s x.aQ g1;have zq:(x.aQ:Int)<(s.size:Int):=by omega
   have zb:(cE s x.aQ:Int)=123:=by omega
   have yz:IntKind.i64.wrap ((x.aQ:Int)+1)=(x.aQ:Int)+1:=zIn _ (by omega);have qb:=λw9 (hb:Below w.heap.size w w9)=>(HP.o.below hb).set 1 (.int .i64 ((x.aQ:Int)+1)) {x with aQ:=x.aQ+1} (by simp) rfl ⟨by show x.aQ+1<=s.size;omega,HP.o.sz.2.2.1,HP.o.sz.2.2.2⟩;have Yf:=zh qb;clear qb hb;rw[zb] at vl;clear zb;unfold bJ;go_enter Tryz.func179,Tryz.ntmps179;go_upto_region 3 with (fail)
   go_quiet (fail);have yj:Below w.heap.size w (w.drewN nq):=aV (zBr _ w) _;have qz:=HP.o.below yj;generalize w.drewN nq=w1 at yj qz ⊢;have QH:=zh yj;obtain⟨d0,d1,_⟩:=qz.cells;have f2:=aM w1 pb 1 _ _ qz.blk;clear yj qz c0 c1;go_upto_if 30 with (fail)
   go_cut [] (λwx=>∃ q,x.aQ<=q/\q<=s.size/\eW B pb s {x with aQ:=q} lv wx/\PK pb lv lv w wx/\dZ s x.aQ k=.error (2,k))
   case first=>
    go_wp2_with (fail);go_loopw [5,6] (λs5 s6 wr=>∃ (i v:Nat),s6=.int .i64 i/\s5=.int .i64 v/\i<=7/\v<16^i/\x.aQ+1+i<=s.size/\eW B pb s {x with aQ:=x.aQ+1+i} lv wr/\PK pb lv lv w wr/\((i<=6/\dZ s x.aQ k=lZ s k i (x.aQ+1+i) v)\/(i=7/\dZ s x.aQ k=.error (2,k)))) (λ_ s6 _=>7-(RowKit.intOf s6).toNat)
    case atStart=>exact⟨0,0,rfl,rfl,by omega,by decide,by omega,Yf.o _ QH.o,(PK.of_below QH.o).trans (PK.set 1 _),.inl ⟨by omega,Hq.o⟩⟩
    case round=>
     obtain⟨i,v,rfl,rfl,hi,hv,Ju,hp,Kl,hD⟩:=hrel;obtain⟨c0,c1,_⟩:=hp.cells;dsimp only at c1;have DL:v<268435456:=zLd hv (Nat.pow_le_pow_right (by decide) hi);obtain⟨q,hq⟩:=zE (x.aQ+1+i);rw[<-hq] at c1 Ju hp hD;have yc:=zh (zAi hp Kl);have HQ:=zh hq;have HD:=zh hD;have HV:=zh hv
     have qb:=λw9 (hb:Below wr.heap.size wr w9) (h9:q+1<=s.size)=>(yc.o.1.below hb).set 1 (.int .i64 ((q:Int)+1)) {x with aQ:=q+1} (by simp) rfl ⟨h9,yc.o.1.sz.2.2.1,yc.o.1.sz.2.2.2⟩;have fw:=zh qb;clear qb hq hp Kl hD hv f2 d0 d1 vl;have Hz:=mT s q;by_cases XB:q<s.size
     . have zq1:(q:Int)<(s.size:Int):=by omega
       have Em:=fP s q XB;have hwq1:=zW q (by omega);by_cases h7:i=7
       . have qm:dZ s x.aQ k=.error (2,k):=by
          rcases HD.o with h|h
          . omega
          exact h.2
         have KC:=zh qm;have y2:decide ((i:Int)<7)=false:=by simp;omega
         have y3:(0:Int)<(i:Int):=by omega
         have Xi:((cE s q:Int)==125)=false\/(cE s q:Int)=125:=by
          by_cases e:cE s q=125
          . exact .inr (by omega)
          exact .inl (by simp;omega)
         clear qm
         rcases Xi with y4|y4
         all_goals
          try rw[y4] at Em
          go_wp2_with (fail);go_quiet (fail);obtain⟨wq,yz⟩:=zE (wr.drewN nq);have XQ:Below wr.heap.size wr wq:=by rw[yz];exact aV (zBr _ wr) _
          rw[<-yz];have xq:=yc.o.1.below XQ;have TY:=zh XQ;obtain⟨e0,e1,_⟩:=xq.cells;clear yz XQ xq;go_wp2_with (fail);go_quiet (fail);go_wp2_with (fail);go_meet;exact⟨q,by have:=HQ.o;omega,Ju,yc.o.1.below (aV TY.o _),yc.o.2.trans (PK.of_below (aV TY.o _)),KC.o⟩
       have y2:(i:Int)<7:=by omega
       have Gp:i<=6/\dZ s x.aQ k=lZ s k i q v:=by
        rcases HD.o with h|h
        . exact h
        omega
       have Jl:=λw9=>rhex_any (cE s q) Hz w9;cases hx:mX (cE s q) with
       | none=>
        rw[hx] at Jl;dsimp only at Jl;have Hl:=zft (k:=k) (v:=v) (by omega:i<=7) XB hx;rw[<-Gp.2] at Hl;have xy:=zh Hl;have Bd:=zh Jl;clear Hl Jl hx Gp;go_wp2_with (fail);go_quiet (fail);obtain⟨wq,yz⟩:=zE (wr.drewN nq);have XQ:Below wr.heap.size wr wq:=by rw[yz];exact aV (zBr _ wr) _
        rw[<-yz];have xq:=yc.o.1.below XQ;have TY:=zh XQ;obtain⟨e0,e1,_⟩:=xq.cells;clear yz XQ xq;go_wp2_with (fail);go_quiet ((go_at_call 180;exact Calls.quiet_of_same (Bd.o _)));obtain⟨w8,yz⟩:=zE (wq.drewN nq);have XQ:Below wr.heap.size wr w8:=by rw[yz];exact aV TY.o _
        rw[<-yz];have xq:=yc.o.1.below XQ;have jp:=zh XQ;obtain⟨g0,g1,_⟩:=xq.cells;have fg:=aM w8 pb 1 _ _ xq.blk;clear yz XQ xq;go_wp2_with (fail);by_cases QW:cE s q=125
        . have y4:(cE s q:Int)=125:=by omega
          rw[y4] at Em;by_cases h0:i=0
          . have y3:decide ((0:Int)<(i:Int))=false:=by simp;omega
            have y3':decide (0<i)=false:=by simp;omega
            have KC:=zh (xy.o.trans (zN (λh=>h.2.1 h0)));go_quiet (fail);go_wp2_with (fail);go_meet;exact⟨q,by have:=HQ.o;omega,Ju,yc.o.1.below (aV jp.o _),yc.o.2.trans (PK.of_below (aV jp.o _)),KC.o⟩
          have y3:decide ((0:Int)<(i:Int))=true:=by simp;omega
          have y3':(0:Int)<(i:Int):=by omega
          have y3n:decide (0<i)=true:=by simp;omega
          have YE:=λw9=>sB (v:Int) (by omega) w9;go_quiet (fail);obtain⟨w7,yz⟩:=zE (w8.drewN nq);have XQ:Below wr.heap.size wr w7:=by rw[yz];exact aV jp.o _
          rw[<-yz];have xq:=yc.o.1.below XQ;have uk:=zh XQ;obtain⟨m0,m1,_⟩:=xq.cells;have fm:=aM w7 pb 1 _ _ xq.blk;clear yz XQ xq;cases tE:fT (v:Int) with
          | false=>
           rw[tE] at YE;have BB:=zh YE;have KC:=zh (xy.o.trans (zN (λh=>by
            have h9:=h.2.2;simp only[fT,decide_eq_false_iff_not] at tE;omega)))
           clear YE tE;go_wp2_with (first|(go_at_call 160;refine (BB.o _).mono ?_;rintro e9 w9 ⟨rfl,rfl⟩));go_meet;exact⟨q+1,by have:=HQ.o;omega,XB,fw.o _ uk.o XB,yc.o.2.trans ((PK.of_below uk.o).trans (PK.set 1 _)),KC.o⟩
          | true=>
           rw[tE] at YE;have BB:=zh YE;have hvv:(v<55296)\/(57343<v/\v<=1114111):=by
            simp only[fT,decide_eq_true_eq] at tE;omega
           have QB:=zh (xy.o.trans (zP ⟨QW,h0,hvv⟩));clear YE tE;go_wp2_with (first|(go_at_call 160;refine (BB.o _).mono ?_;rintro e9 w9 ⟨rfl,rfl⟩));go_ret;refine⟨v,_,rfl,⟨fw.o _ uk.o XB,yc.o.2.trans ((PK.of_below uk.o).trans (PK.set 1 _))⟩,by omega,by omega,?_,λc q' hh=> ?_⟩
           . rw[QB.o]
             exact⟨rfl,by show x.aQ<=q+1;have:=HQ.o;omega,XB⟩
           rw[QB.o] at hh
           cases hh;rfl
        . have y4:((cE s q:Int)==125)=false:=by simp;omega
          have KC:=zh (xy.o.trans (zN (λh=>QW h.1)));go_quiet (fail);go_wp2_with (fail);go_meet;exact⟨q,by have:=HQ.o;omega,Ju,yc.o.1.below (aV jp.o _),yc.o.2.trans (PK.of_below (aV jp.o _)),KC.o⟩
       | some hd=>
        rw[hx] at Jl;dsimp only at Jl;have Ei:hd<=15:=by
         unfold mX at hx;split at hx
         . cases hx;omega
         split at hx
         . cases hx;omega
         split at hx
         . cases hx;omega
         cases hx
        have Jp:((i+1<=6/\dZ s x.aQ k=lZ s k (i+1) (q+1) (16*v+hd))\/(i+1=7/\dZ s x.aQ k=.error (2,k))):=by
         rcases (by omega:i<6\/i=6) with h|rfl
         . exact .inl ⟨by omega,Gp.2.trans (coded_hex h XB hx)⟩
         exact .inr ⟨rfl,Gp.2.trans (zdI XB hx)⟩
        have wG:16*v+hd<16^(i+1):=by have:=HV.o;rw[Nat.pow_succ];omega
        have QM:=zh (zAi Jp wG);have Bd:=zh Jl;have X9:IntKind.i64.wrap (16*(v:Int))=16*(v:Int):=zIn _ (by omega);have O0:IntKind.i64.wrap (16*(v:Int)+(hd:Int))=16*(v:Int)+(hd:Int):=zIn _ (by omega);have O1:=zW i (by omega);clear Jp wG Jl hx Gp;go_wp2_with (fail);go_quiet (fail);obtain⟨wq,yz⟩:=zE (wr.drewN nq);have XQ:Below wr.heap.size wr wq:=by rw[yz];exact aV (zBr _ wr) _
        rw[<-yz];have xq:=yc.o.1.below XQ;have TY:=zh XQ;obtain⟨e0,e1,_⟩:=xq.cells;clear yz XQ xq;go_wp2_with (fail);go_quiet ((go_at_call 180;exact Calls.quiet_of_same (Bd.o _)));obtain⟨w8,yz⟩:=zE (wq.drewN nq);have XQ:Below wr.heap.size wr w8:=by rw[yz];exact aV TY.o _
        rw[<-yz];have xq:=yc.o.1.below XQ;have jp:=zh XQ;obtain⟨g0,g1,_⟩:=xq.cells;have fg:=aM w8 pb 1 _ _ xq.blk;clear yz XQ xq;go_wp2_with (fail);go_roundw
        case rel=>exact⟨i+1,16*v+hd,by go_num,by go_num,by omega,QM.o.2,by have:=HQ.o;omega,by rw[show x.aQ+1+(i+1)=q+1 by have:=HQ.o;omega];exact fw.o _ jp.o XB,yc.o.2.trans ((PK.of_below jp.o).trans (PK.set 1 _)),by rw[show x.aQ+1+(i+1)=q+1 by have:=HQ.o;omega];exact QM.o.1⟩
        case measure=>(simp[zI]<;>omega)
     . have qm:dZ s x.aQ k=.error (2,k):=by
        rcases HD.o with h|h
        . rw[h.2,zfs hi XB]
        exact h.2
       have KC:=zh qm;have y1:decide (q<s.size)=false:=by simp;omega
       clear qm;go_wp2_with (fail);go_quiet (fail);obtain⟨wq,yz⟩:=zE (wr.drewN nq);have XQ:Below wr.heap.size wr wq:=by rw[yz];exact aV (zBr _ wr) _
       rw[<-yz];have xq:=yc.o.1.below XQ;have TY:=zh XQ;obtain⟨e0,e1,_⟩:=xq.cells;clear yz XQ xq;go_wp2_with (fail);go_quiet (fail);go_wp2_with (fail);go_meet;exact⟨q,by have:=HQ.o;omega,Ju,yc.o.1.below (aV TY.o _),yc.o.2.trans (PK.of_below (aV TY.o _)),KC.o⟩
   case rest=>
    obtain⟨q,h1,h2,h3,h4,h5⟩:=hcut;have hf:=nh.o q wc h1 h2 h3 h4 h5;unfold bJ at hf;have HF:=zh hf;clear hf h1 h2 h3 h4 h5;go_wp2_with (first|(go_at_call 126;refine HF.o.mono ?_;rintro e' w' ⟨rfl,ho⟩;have H1:=zh ho;clear ho));go_ret;exact H1.o
 have Q1:pO s x.aQ 123=false:=by simpa using hb
 have qm:dZ s x.aQ k=.error (2,k):=by unfold dZ;rw[zN hb]
 have hf:=λw1 (VE:Below w.heap.size w w1)=>nh.o x.aQ w1 (zR _) hz.2.1 (HP.o.below VE) (PK.of_below VE) qm;unfold bJ at hf;have HF:=zh hf;have Xi:decide (x.aQ<s.size)=false\/((x.aQ:Int)<(s.size:Int)/\((cE s x.aQ:Int)==123)=false):=by
  rcases zLg x.aQ s.size with h|h
  . exact .inr ⟨by omega,by have:=isB_no Q1 h;simp;omega⟩
  exact .inl (by simp;omega)
 clear hb Q1 qm hf;unfold bJ
 rcases Xi with y|⟨y,y1⟩
 all_goals
  try have vl:=fP s x.aQ (by omega)
  go_enter Tryz.func179,Tryz.ntmps179;go_upto_region 3 with (fail)
  go_quiet (fail);go_wp2_with (first|(go_at_call 126;refine (HF.o _ (by first|exact aV (zBr _ w) _|exact zBr _ w)).mono ?_;rintro e' w' ⟨rfl,ho⟩;have H1:=zh ho;clear ho));go_ret;exact H1.o
theorem eT (s:ByteArray) (p:Nat):cD s p=if (bQ s p).1<0/\0<(bQ s p).2 then .error (2,p) else .ok (bQ s p).1:=by
 unfold cD bQ;by_cases h:p<s.size
 . rw[zP h,zP h]
   by_cases hb:(Utf8.decode s p).1=65533/\(Utf8.decode s p).2=1
   . rw[zP hb,zP hb,zP (by decide)]
   rw[zN hb,zN hb,zN (by dsimp only;omega)]
 rw[zN h,zN h,zN (by decide)]
theorem oI (h:¬ p<s.size):bQ s p=(-1,0):=by unfold bQ;rw[zN h]
theorem zd6 (h:p<s.size) (hb:cE s p<128):bQ s p=((cE s p:Int),1):=by
 unfold bQ;rw[zP h,rG,Lib.decodeN,zP hb,zN (by dsimp only;omega)]
theorem zck (h:p<s.size) (hb:¬ cE s p<128):((bQ s p).1= -1\/128<=(bQ s p).1)/\1<=(bQ s p).2:=by
 unfold bQ;rw[zP h];by_cases hq:(Utf8.decode s p).1=65533/\(Utf8.decode s p).2=1
 . rw[zP hq];exact⟨.inl rfl,zR _⟩
 rw[zN hq]
 obtain⟨c,k,hx,hh⟩:=jA s p h hq;rw[hx];refine⟨.inr ?_,by dsimp only;omega⟩;dsimp only
 rcases hh with⟨e,h1⟩|hh|hh|hh
 . exfalso
   have h0:=mT s p;rw[rG] at hx;by_cases g2:cE s p<194
   . rw[rF (.inl ⟨by omega,g2⟩) h0] at hx;cases hx;omega
   by_cases g3:cE s p<224
   . rw[zad (by omega) g3] at hx
     split at hx<;>cases hx<;>omega
   by_cases g4:cE s p<240
   . rw[zae (by omega) g4] at hx
     split at hx<;>cases hx<;>omega
   by_cases g5:cE s p<245
   . rw[zaf (by omega) g5] at hx
     split at hx<;>cases hx<;>omega
   rw[rF (.inr (by omega)) h0] at hx;cases hx;omega
 . omega
 . omega
 omega
theorem zcu (hp:p<=s.size):nZ s p=if (bQ s p).1<0/\0<(bQ s p).2 then .error (2,p) else .ok ((bQ s p).1,p+(bQ s p).2):=by
 unfold nZ;rw[eT];by_cases h:(bQ s p).1<0/\0<(bQ s p).2
 . rw[zP h,zP h]
 rw[zN h,zN h]
 dsimp only;by_cases Hf:p<s.size
 . unfold bQ at h ⊢
   rw[zP Hf] at h ⊢;by_cases hb:(Utf8.decode s p).1=65533/\(Utf8.decode s p).2=1
   . rw[zP hb] at h
     exact absurd (by decide) h
   rw[zN hb,zN (by omega)]
 rw[oI Hf]
 rfl
theorem yK (h:bQ s p=(92,1)):bP s p=if p+1<s.size then
 (if cE s (p+1)=110 then .ok (10,p+1+1) else if cE s (p+1)=116 then .ok (9,p+1+1) else if cE s (p+1)=114 then .ok (13,p+1+1) else if cE s (p+1)=117 then dZ s (p+1+1) p else if uE.contains (cE s (p+1)) then .ok (cE s (p+1),p+1+1) else .error (2,p)) else .error (2,p):=by
 have hp:p<=s.size:=by
  rcases zLg s.size p with h1|h1
  . rw[oI (by omega)] at h;cases h
  exact h1
 unfold bP;rw[zcu hp,h,zN (by decide)];rfl
theorem sC (hp:p<=s.size) (h1:¬ ((bQ s p).1<0/\0<(bQ s p).2)) (h2:(bQ s p).1≠92):bP s p=.ok ((bQ s p).1,p+(bQ s p).2):=by
 unfold bP;rw[zcu hp,zN h1];dsimp only;rw[zN h2]
theorem zbK (hp:p<=s.size) (h1:(bQ s p).1<0/\0<(bQ s p).2):bP s p=.error (2,p):=by
 unfold bP;rw[zcu hp,zP h1]
theorem zeV (h:(bQ s p).1=92):(bQ s p).2=1/\p<s.size:=by
 by_cases hp:p<s.size
 . by_cases hb:cE s p<128
   . rw[zd6 hp hb];exact⟨rfl,hp⟩
   rcases (zck hp hb).1 with e|e<;>omega
 rw[oI hp] at h;cases h
theorem OkR.from {y:Pr} {a:Nat} {r:Except jU Nat} (h:OkR s {x with aQ:=a} y r) (ha:x.aQ<=a):OkR s x y r:=by
 cases r with
 | ok q=>exact⟨h.1,zT ha h.2.1,h.2.2⟩
 | error e=>
  obtain⟨q,h1,h2,h3⟩:=h;exact⟨q,zT ha h1,h2,h3⟩
theorem qS (h:¬ ((bQ s x.aQ).1<0/\0<(bQ s x.aQ).2)):dR s x=x:=by unfold dR;rw[zN h]
theorem vO (he:x.e=0) (h:(bQ s x.aQ).1<0/\0<(bQ s x.aQ).2):dR s x={x with e:=2,wh:=x.aQ}:=by unfold dR eH;rw[zP h,zP he]
theorem zdP {b:Nat} (h:uE.contains b=true):b=40\/b=41\/b=91\/b=93\/b=123\/b=125\/b=124\/b=42\/b=43\/b=63\/b=46\/b=92\/b=45\/b=94:=by
 simpa[uE] using h
theorem escs_out {b:Nat} (h:uE.contains b=false):b≠40/\b≠41/\b≠91/\b≠93/\b≠123/\b≠125/\b≠124/\b≠42/\b≠43/\b≠63/\b≠46/\b≠92/\b≠45/\b≠94:=by
 simpa[uE] using h
theorem uS (B pb:Nat) (s:ByteArray) (x:Pr) (lv:Value) (w:World) (h:eW B pb s x lv w) (he:x.e=0):
 Calls Tryz.prog 175 #[bJ pb] w (ScalO B pb s x (bP s x.aQ) lv w):=by
 have HE:=zh he;have hz:=h.sz;have qe:=gQ B pb s x lv w h;obtain⟨c0,c1,_⟩:=h.cells;have Qt:=mJ s x.aQ hz.2.1;clear h;unfold bJ at qe ⊢;by_cases QX:(bQ s x.aQ).1<0/\0<(bQ s x.aQ).2
 . have wj:=zbK hz.2.1 QX
   rw[vO he QX] at qe;have fq:=zh wj;generalize bQ s x.aQ=cn at qe Qt;obtain⟨c,n⟩:=cn;dsimp only at qe Qt;have Qj:=zh qe;clear qe wj QX he;go_enter Tryz.func175,Tryz.ntmps175;go_upto_region 3 with (go_at_call 150;refine Qj.o.mono ?_;rintro e' w1 ⟨rfl,ho⟩;have H1:=zh ho;clear ho)
   obtain⟨_,_,c2,_⟩:=H1.o.1.cells;dsimp only at c2;go_wp2_with (fail);go_ret;refine⟨0,_,rfl,H1.o,by decide,by decide,?_,λc q hh=> ?_⟩
   . rw[fq.o]
     exact⟨x.aQ,zR _,hz.2.1,rfl⟩
   rw[fq.o] at hh;cases hh
 rw[qS QX] at qe;by_cases Ke:(bQ s x.aQ).1=92
 . obtain⟨yj,Qu⟩:=zeV Ke
   have VM:bQ s x.aQ=(92,1):=Prod.ext Ke yj;have Rb:=zh (yK VM);rw[VM] at qe;have Qj:=zh qe;clear qe VM Qt QX he yj Ke;have yz:IntKind.i64.wrap ((x.aQ:Int)+1)=(x.aQ:Int)+1:=zIn _ (by omega);obtain⟨q,hq⟩:=zE (x.aQ+1);rw[<-hq] at Rb;have ho:=λw'=>one_any (s.extract q s.size) w';rw[zeU s q (by omega)] at ho;have Xt:=mJ s q (by omega);obtain⟨⟨d,k⟩,JV⟩:∃ dk,dk=bQ s q:=⟨_,rfl⟩;rw[<-JV] at ho Xt;dsimp only at ho Xt;have HO:=zh ho
   have LF:=zh JV;have wg:(x.aQ:Int)+1=(q:Int):=by omega
   rw[wg] at yz;have Kv:IntKind.i64.wrap ((q:Int)+(k:Int))=(q:Int)+(k:Int):=zIn _ (by omega);have zs1:(q:Int)<=(s.size:Int):=by omega
   have HQZ:=zh hq;clear ho JV hq;go_enter Tryz.func175,Tryz.ntmps175;go_upto_region 3 with (go_at_call 150;refine Qj.o.mono ?_;rintro e' w1 ⟨rfl,ho⟩;have H1:=zh ho;clear ho)
   obtain⟨d0,d1,c2,_⟩:=H1.o.1.cells;have f2:=aM w1 pb 1 _ _ H1.o.1.blk;rw[HE.o] at c2;have qb:=H1.o.1.set 1 (.int .i64 (q:Int)) {x with aQ:=q} (by simp) rfl ⟨by show q<=s.size;omega,H1.o.1.sz.2.2.1,H1.o.1.sz.2.2.2⟩;have Gz:=H1.o.2.trans (PK.set (pb:=pb) (v:=lv) 1 (w:=w1) (.int .i64 (q:Int)));have Yf:=zh (zAi qb Gz);clear qb Gz c0 c1;go_upto_region 8 with (fail)
   generalize w1.setCell ⟨pb,1,none⟩ (.int .i64 (q:Int))=w2 at Yf ⊢;obtain⟨e0,e1,e2,_⟩:=Yf.o.1.cells;dsimp only at e1 e2;clear d0 d1 c2 f2;go_quiet ((go_at_call 134;exact Calls.quiet_of_same (HO.o _)));have Qi:Below w2.heap.size w2 (w2.drewN nq):=aV (zBr _ w2) _;have yx:=Yf.o.1.below Qi;have A2:=Yf.o.2.trans (PK.of_below Qi);generalize w2.drewN nq=w3 at yx A2 ⊢;have f3:=aM w3 pb 1 _ _ yx.blk;obtain⟨g0,g1,_⟩:=yx.cells;dsimp only at g1
   have qb:=yx.set 1 (.int .i64 ((q:Int)+(k:Int))) {x with aQ:=q+k} (by simp) rfl ⟨by show q+k<=s.size;omega,yx.sz.2.2.1,yx.sz.2.2.2⟩;have H5:=zh (zAi qb (A2.trans (PK.set (pb:=pb) (v:=lv) 1 (w:=w3) (.int .i64 ((q:Int)+(k:Int))))));clear Qi yx A2 qb e0 e1 e2
   go_upto_block 0 with (fail)
   generalize w3.setCell ⟨pb,1,none⟩ (.int .i64 ((q:Int)+(k:Int)))=w5 at H5 ⊢;clear g0 g1 f3;have Q3:bP s x.aQ=.error (2,x.aQ)->Calls Tryz.prog 126 #[bJ pb,.int .i64 (2:Nat),.int .i64 x.aQ] w5 λe' w'=>e'=.returned (.tuple #[])/\ScalO B pb s x (bP s x.aQ) lv w (.returned (.int .i64 0)) w':=by
    intro qm;refine (gP B pb s {x with aQ:=q+k} lv w5 H5.o.1 2 x.aQ (by omega) (by omega)).mono ?_;rintro e' w' ⟨rfl,Kr,JX⟩;have hy:eH {x with aQ:=q+k} 2 x.aQ={x with aQ:=q+k,e:=2,wh:=x.aQ}:=by unfold eH;rw[zP HE.o]
    rw[hy] at Kr;refine⟨rfl,0,_,rfl,⟨Kr,H5.o.2.trans JX⟩,by decide,by decide,?_,λc q' hh=> ?_⟩
    . rw[qm]
      exact⟨q+k,by omega,by omega,rfl⟩
    rw[qm] at hh;cases hh
   unfold bJ at Q3;have J8:=zh Q3;clear Q3;have last:(bP s x.aQ=.error (2,x.aQ)/\d≠110/\d≠116/\d≠114/\d≠117/\(d≠40/\d≠41/\d≠91/\d≠93/\d≠123/\d≠125/\d≠124/\d≠42/\d≠43/\d≠63/\d≠46/\d≠92/\d≠45/\d≠94))\/
    (k=1/\q+1<=s.size/\((d=110/\bP s x.aQ=.ok (10,q+1))\/(d=116/\bP s x.aQ=.ok (9,q+1))\/(d=114/\bP s x.aQ=.ok (13,q+1))\/(d=117/\bP s x.aQ=dZ s (q+1) x.aQ)\/(uE.contains d.toNat=true/\0<=d/\bP s x.aQ=.ok (d,q+1)))):=by
    have kt:=Rb.o;by_cases XB:q<s.size
    . rw[zP XB] at kt
      by_cases hb:cE s q<128
      . have JV:=LF.o
        rw[zd6 XB hb] at JV;obtain⟨rfl,rfl⟩:=Prod.mk.inj JV;by_cases b1:cE s q=110
        . rw[zP b1] at kt;exact .inr ⟨rfl,XB,.inl ⟨by omega,kt⟩⟩
        rw[zN b1] at kt;by_cases b2:cE s q=116
        . rw[zP b2] at kt;exact .inr ⟨rfl,XB,.inr (.inl ⟨by omega,kt⟩)⟩
        rw[zN b2] at kt;by_cases b3:cE s q=114
        . rw[zP b3] at kt;exact .inr ⟨rfl,XB,.inr (.inr (.inl ⟨by omega,kt⟩))⟩
        rw[zN b3] at kt;by_cases b4:cE s q=117
        . rw[zP b4] at kt;exact .inr ⟨rfl,XB,.inr (.inr (.inr (.inl ⟨by omega,kt⟩)))⟩
        rw[zN b4] at kt;cases hc:uE.contains (cE s q) with
        | true=>rw[hc,zP rfl] at kt;exact .inr ⟨rfl,XB,.inr (.inr (.inr (.inr ⟨by rw[Int.toNat_natCast];exact hc,by omega,kt⟩)))⟩
        | false=>
         rw[hc,zN (by decide)] at kt;have:=escs_out hc;exact .inl ⟨kt,by omega,by omega,by omega,by omega,by omega⟩
      have hh:=zck XB hb
      rw[<-LF.o] at hh;dsimp only at hh;rw[zN (by omega),zN (by omega),zN (by omega),zN (by omega),zN (λhc=>by have:=zdP hc;omega)] at kt;exact .inl ⟨kt,by omega,by omega,by omega,by omega,by omega⟩
    rw[zN XB] at kt
    have JV:=LF.o;rw[oI XB] at JV;obtain⟨rfl,rfl⟩:=Prod.mk.inj JV;exact .inl ⟨kt,by decide,by decide,by decide,by decide,by decide⟩
   rcases last with⟨qm,n1,n2,n3,n4,m⟩|⟨rfl,SZ,P3⟩
   . have HF:=zh (J8.o qm)
     obtain⟨m1,m2,m3,m4,m5,m6,m7,m8,m9,m10,m11,m12,m13,m14⟩:=m;have a1:(d==110)=false:=by simp[n1]
     have a2:(d==116)=false:=by simp[n2]
     have a3:(d==114)=false:=by simp[n3]
     have a4:(d==117)=false:=by simp[n4]
     have b1:(d==40)=false:=by simp[m1]
     have b2:(d==41)=false:=by simp[m2]
     have b3:(d==91)=false:=by simp[m3]
     have b4:(d==93)=false:=by simp[m4]
     have b5:(d==123)=false:=by simp[m5]
     have b6:(d==125)=false:=by simp[m6]
     have b7:(d==124)=false:=by simp[m7]
     have b8:(d==42)=false:=by simp[m8]
     have b9:(d==43)=false:=by simp[m9]
     have b10:(d==63)=false:=by simp[m10]
     have b11:(d==46)=false:=by simp[m11]
     have b12:(d==92)=false:=by simp[m12]
     have b13:(d==45)=false:=by simp[m13]
     have b14:(d==94)=false:=by simp[m14]
     clear qm n1 n2 n3 n4 m1 m2 m3 m4 m5 m6 m7 m8 m9 m10 m11 m12 m13 m14;go_wp2_with (first|(go_at_call 126;refine HF.o.mono ?_;rintro e' w' ⟨rfl,ho⟩;have H9:=zh ho;clear ho));go_ret;exact H9.o
   rcases P3 with⟨rfl,hr⟩|⟨rfl,hr⟩|⟨rfl,hr⟩|⟨rfl,hr⟩|⟨hc,hd0,hr⟩
   . have HR:=zh hr
     clear hr;go_wp2_with (fail);go_ret;refine⟨10,_,rfl,H5.o,by decide,by decide,?_,λc' q' hh=> ?_⟩
     . rw[HR.o]
       exact⟨rfl,by show x.aQ<=q+1;omega,by show q+1<=s.size;omega⟩
     rw[HR.o] at hh
     cases hh;rfl
   . have HR:=zh hr
     clear hr;go_wp2_with (fail);go_ret;refine⟨9,_,rfl,H5.o,by decide,by decide,?_,λc' q' hh=> ?_⟩
     . rw[HR.o]
       exact⟨rfl,by show x.aQ<=q+1;omega,by show q+1<=s.size;omega⟩
     rw[HR.o] at hh
     cases hh;rfl
   . have HR:=zh hr
     clear hr;go_wp2_with (fail);go_ret;refine⟨13,_,rfl,H5.o,by decide,by decide,?_,λc' q' hh=> ?_⟩
     . rw[HR.o]
       exact⟨rfl,by show x.aQ<=q+1;omega,by show q+1<=s.size;omega⟩
     rw[HR.o] at hh
     cases hh;rfl
   . have gj:=zfQ B pb s {x with aQ:=q+1} lv w5 H5.o.1 HE.o x.aQ (by omega)
     dsimp only at gj;rw[<-hr] at gj;unfold bJ at gj;have Wc:=zh gj;clear gj hr;go_wp2_with (first|(go_at_call 179;refine Wc.o.mono ?_;rintro e' w' ⟨v,y,rfl,Kr,Tv,Ku,JX,cm⟩;have H9:=zh (zAi Kr (zAi Tv (zAi Ku (zAi JX cm))));clear Kr Tv Ku JX cm));go_ret;exact⟨v,y,rfl,⟨H9.o.1.1,H5.o.2.trans H9.o.1.2⟩,H9.o.2.1,H9.o.2.2.1,H9.o.2.2.2.1.from (by omega),H9.o.2.2.2.2⟩
   have HR:=zh hr
   have ox:=zdP hc;clear hr hc;have ou:d=40\/d=41\/d=91\/d=93\/d=123\/d=125\/d=124\/d=42\/d=43\/d=63\/d=46\/d=92\/d=45\/d=94:=by omega
   clear ox
   rcases ou with rfl|rfl|rfl|rfl|rfl|rfl|rfl|rfl|rfl|rfl|rfl|rfl|rfl|rfl
   all_goals
    go_wp2_with (fail);go_ret;refine⟨_,_,rfl,H5.o,by decide,by decide,?_,λc' q' hh=> ?_⟩
    . rw[HR.o]
      exact⟨rfl,by show x.aQ<=q+1;omega,by show q+1<=s.size;omega⟩
    rw[HR.o] at hh
    cases hh;rfl
 have JB:=sC hz.2.1 QX Ke
 generalize bQ s x.aQ=cn at qe Qt JB Ke;obtain⟨c,n⟩:=cn;dsimp only at qe Qt JB Ke;have Qj:=zh qe;have Ru:=zh JB;have z92:(c==92)=false:=by simp[Ke]
 have yz:IntKind.i64.wrap ((x.aQ:Int)+(n:Int))=(x.aQ:Int)+(n:Int):=zIn _ (by omega);clear qe JB QX Ke he;go_enter Tryz.func175,Tryz.ntmps175;go_upto_region 3 with (go_at_call 150;refine Qj.o.mono ?_;rintro e' w1 ⟨rfl,ho⟩;have H1:=zh ho;clear ho)
 obtain⟨_,d1,c2,_⟩:=H1.o.1.cells;have f2:=aM w1 pb 1 _ _ H1.o.1.blk;rw[HE.o] at c2;have qb:=H1.o.1.set 1 (.int .i64 ((x.aQ:Int)+(n:Int))) {x with aQ:=x.aQ+n} (by simp) rfl ⟨by show x.aQ+n<=s.size;omega,H1.o.1.sz.2.2.1,H1.o.1.sz.2.2.2⟩;have Yf:=zh qb;clear qb c0 c1;go_wp2_with (fail);go_ret;refine⟨c,_,rfl,⟨Yf.o,H1.o.2.trans (PK.set 1 _)⟩,by omega,by omega,?_,λc' q hh=> ?_⟩
 . rw[Ru.o]
   exact⟨rfl,by show x.aQ<=x.aQ+n;omega,by show x.aQ+n<=s.size;omega⟩
 rw[Ru.o] at hh
 cases hh;rfl
structure WInv (l:List (Int×Int)) (c:Int) (O:List (Int×Int)):Prop where
 c0:0<=c/\c<=1114112
 ne:∀ r∈O,0<=r.1/\r.1<=r.2/\r.2<c
 sep:∀ r∈O,∀ q∈O,r=q\/r.2+1<q.1\/q.2+1<r.1
 last:∀ r∈O,r.2+1<c\/(r.2+1=c/\(yX l c\/1114111<c))
 lo:∀ r∈O,cH r.1=true\/r.1∈bX
 hi:∀ r∈O,cH (r.2+1)=true\/r.2+1∈bX\/1114111<=r.2
 mem:∀ z,cH z=true->z<c->(yX O z↔¬ yX l z)
 cv:cH c=true\/c∈bX\/1114111<c
 len:(O.length:Int)<=c
 live:∀ r∈O,∃ z,cH z=true/\r.1<=z/\z<=r.2
theorem WInv.zero (l:List (Int×Int)):WInv l 0 []:=
 ⟨by decide,λr h=>(by cases h),λr h=>(by cases h),λr h=>(by cases h),λr h=>(by cases h),λr h=>(by cases h),λz hz h0=>by rw[dS] at hz;omega,.inl (by decide),by decide,λr h=>(by cases h)⟩
theorem WInv.hit (h:WInv l c O) (hr:r∈l) (hl:sS l) (h1:r.1<=c) (h2:c<=r.2):WInv l (r.2+1) O:=by
 have hs:=hl r hr;have hv:=hs.2.2;rw[dS] at hv;have hc:=h.c0;refine⟨by omega,λq hq=>by have:=h.ne q hq;omega,h.sep,λq hq=>.inl (by have:=h.ne q hq;omega),h.lo,h.hi,λz hz hzc=> ?_,?_,by have:=h.len;omega,h.live⟩
 . rcases (by omega:z<c\/c<=z) with e|e
   . exact h.mem z hz e
   constructor
   . rintro⟨q,hq,k1,k2⟩
     have:=h.ne q hq;omega
   intro hn
   exact absurd ⟨r,hr,by omega,by omega⟩ hn
 rcases zbQ hs.2.2 with e|e|e
 . exact .inl e
 . exact .inr (.inl e)
 exact .inr (.inr (by omega))
def zbo (l:List (Int×Int)) (c N:Int) (n:Nat):Prop:=
 (∀ (j:Nat) (r:Int×Int),j<n->l[j]?=some r->¬ (r.1<=c/\c<=r.2)/\(c<r.1->N<=r.1))/\(N=1114112\/∃ r∈l,N=r.1/\c<r.1)
theorem zbo.o (h:zbo l c N l.length) {z:Int} (h1:c<=z) (h2:z<N):¬ yX l z:=by
 rintro⟨r,hr,k1,k2⟩;obtain⟨j,hj⟩:=List.mem_iff_getElem?.1 hr;have:=h.1 j r (List.getElem?_eq_some_iff.1 hj).1 hj
 rcases (by omega:c<r.1\/r.1<=c) with e|e
 . have:=this.2 e;omega
 exact this.1 ⟨e,by omega⟩
theorem zbo.facts {n:Nat} (h:zbo l c N n) (hl:sS l) (hc:c<=1114111):c<N/\N<=1114112/\(cH N=true\/N=1114112)/\(yX l N\/1114111<N):=by
 rcases h.2 with e|⟨r,hr,e,e'⟩
 . exact⟨by omega,by omega,.inr e,.inr (by omega)⟩
 have hs:=hl r hr
 have hv:=hs.2.1;rw[dS] at hv;exact⟨by omega,by omega,.inl (by rw[e];exact hs.2.1),.inl ⟨r,hr,by omega,by omega⟩⟩
theorem WInv.gap (h:WInv l c O) (hl:sS l) (hc:c<=1114111) (hN:zbo l c N l.length):WInv l N (if c<55296\/57343<c\/57344<N then O++[(c,N-1)] else O):=by
 obtain⟨n1,n2,n3,n4⟩:=hN.facts hl hc;have x8:=h.c0;have Km:∀ r∈O,r.2+1<c:=λr hr=>by
  rcases h.last r hr with e|⟨e,e'|e'⟩
  . exact e
  . exact absurd e' (hN.o (Int.le_refl _) n1)
  omega
 have Jh:cH N=true\/N∈bX\/1114111<N:=by
  rcases n3 with e|e
  . exact .inl e
  exact .inr (.inr (by omega))
 have Xu:∀ z,cH z=true->z<N->(yX O z↔(¬ yX l z/\z<c)):=λz hz EA=>by
  rcases (by omega:z<c\/c<=z) with e|e
  . rw[h.mem z hz e]
    exact⟨λh=>⟨h,e⟩,λh=>h.1⟩
  constructor
  . rintro⟨q,hq,k1,k2⟩
    have:=h.ne q hq;omega
  rintro⟨_,k⟩;omega
 by_cases hs:c<55296\/57343<c\/57344<N
 . rw[zP hs]
   have Xh:∀ r,r∈O++[(c,N-1)]↔r∈O\/r=(c,N-1):=λr=>by simp
   refine⟨by omega,λr hr=> ?_,λr hr q hq=> ?_,λr hr=> ?_,λr hr=> ?_,λr hr=> ?_,λz hz EA=> ?_,Jh,by have:=h.len;simp;omega,λr hr=> ?_⟩
   . rcases (Xh r).1 hr with hr|rfl
     . have:=h.ne r hr;omega
     dsimp only;omega
   . rcases (Xh r).1 hr with hr|rfl<;>rcases (Xh q).1 hq with hq|rfl
     . exact h.sep r hr q hq
     . exact .inr (.inl (Km r hr))
     . exact .inr (.inr (Km q hq))
     exact .inl rfl
   . rcases (Xh r).1 hr with hr|rfl
     . exact .inl (by have:=Km r hr;omega)
     exact .inr ⟨by dsimp only;omega,n4⟩
   . rcases (Xh r).1 hr with hr|rfl
     . exact h.lo r hr
     rcases h.cv with e|e|e
     . exact .inl e
     . exact .inr e
     omega
   . rcases (Xh r).1 hr with hr|rfl
     . exact h.hi r hr
     dsimp only
     rw[show N-1+1=N by omega]
     rcases n3 with e|e
     . exact .inl e
     exact .inr (.inr (by omega))
   . constructor
     . rintro⟨q,hq,k1,k2⟩
       rcases (Xh q).1 hq with hq|rfl
       . exact ((Xu z hz EA).1 ⟨q,hq,k1,k2⟩).1
       exact hN.o k1 EA
     intro hn
     rcases (by omega:z<c\/c<=z) with e|e
     . obtain⟨q,hq,k⟩:=(Xu z hz EA).2 ⟨hn,e⟩
       exact⟨q,(Xh q).2 (.inl hq),k⟩
     exact⟨(c,N-1),(Xh _).2 (.inr rfl),e,by dsimp only;omega⟩
   rcases (Xh r).1 hr with hr|rfl
   . exact h.live r hr
   dsimp only
   rcases (by omega:(c<55296\/57343<c)\/(55296<=c/\c<=57343)) with e|e
   . exact⟨c,by rw[dS];omega,Int.le_refl _,by omega⟩
   exact⟨57344,by decide,by omega,by omega⟩
 rw[zN hs]
 refine⟨by omega,λr hr=>by have:=h.ne r hr;omega,h.sep,λr hr=>.inl (by have:=Km r hr;omega),h.lo,h.hi,λz hz EA=> ?_,Jh,by have:=h.len;omega,h.live⟩;rw[Xu z hz EA];rw[dS] at hz;exact⟨λh=>h.1,λh=>⟨h,by omega⟩⟩
theorem WInv.done (h:WInv l c O) (hc:¬ c<=1114111):qJ O/\∀ z,cH z=true->(yX O z↔¬ yX l z):=by
 have x8:=h.c0;refine⟨⟨λr hr=>by have:=h.ne r hr;omega,h.sep,h.lo,h.hi⟩,λz hz=>h.mem z hz ?_⟩;rw[dS] at hz;omega
theorem zaH (l:List (Int×Int)) (i:Nat) (r:Int×Int) (h:l[i]?=some r):(eQ l)[i*2]?=some (.int .i64 r.1)/\(eQ l)[i*2+1]?=some (.int .i64 r.2):=by
 induction l generalizing i with
 | nil=>simp at h
 | cons a l ih=>
  have e:eQ (a::l)=.int .i64 a.1:: .int .i64 a.2::eQ l:=rfl;cases i with
  | zero=>simp at h;subst h;exact⟨rfl,rfl⟩
  | succ i=>
   have h':=ih i (by simpa using h);rw[e,show (i+1)*2=i*2+1+1 by omega];simpa using h'
theorem rH:eY Tryz.prog 299 304 2 16:=eY.of (z:=.agg #[.int .i64 0,.int .i64 0]) Tryz.underlying299 (by kernel_rfl) rfl (by decide)
def RgSt (w0:World) (O:List (Int×Int)) (v:Value) (w:World):Prop:=w.ownsRow 0 304 2 v O.length (eQ O)/\(∀ g,v.ownBlock=some g->w0.heap.size<=g)/\Below w0.heap.size w0 w
theorem RgSt.app {w0 wr:World} {v:Value} (h:RgSt w0 O v wr) {a b:Int} {o:Obj} {v4:Value} {w4:World} (Hb:w4.ownsRow 0 304 2 v4 (O.length+1) (eQ O++[.int .i64 a,.int .i64 b])) (hg:(wr.alloc o).grownBy w4 v.ownBlock) (Hz:v4.ownBlock=v.ownBlock\/v4.ownBlock=some (wr.alloc o).heap.size):RgSt w0 (O++[(a,b)]) v4 w4:=by
 have hs:=h.2.2.size;have e:eQ (O++[(a,b)])=eQ O++[.int .i64 a,.int .i64 b]:=by simp[eQ]
 exact⟨by rw[e,zLn];exact Hb,fW Hz h.2.1 (by simp;omega),gE (h.2.2.alloc hs o) hg (by simp;omega) h.2.1⟩
theorem zel (l:List (Int×Int)) (ao:Option Addr) (cap:Nat) (w:World) (hr:w.ownsRow 0 304 2 (.slice ao l.length cap) l.length (eQ l)) (hl:sS l) (hn:l.length<=1000):
 Calls Tryz.prog 178 #[.slice ao l.length cap] w λe w'=>∃ O v',e=.returned v'/\RgSt w O v' w'/\qJ O/\(∀ z,cH z=true->(yX O z↔¬ yX l z))/\∀ r∈O,∃ z,cH z=true/\r.1<=z/\z<=r.2:=by
 have HR:=zh hr;have HL:=zh hl;clear hr hl;go_enter Tryz.func178,Tryz.ntmps178;go_wp2_with (fail);go_loopw [3,4] (λs3 s4 wr=>∃ (c:Int) (O:List (Int×Int)) (Qn:Option Addr) (cap3:Nat),s4=.int .i64 c/\s3=.slice Qn O.length cap3/\WInv l c O/\RgSt w O s3 wr) (λ_ s4 _=>1114112-(RowKit.intOf s4).toNat)
 case atStart=>exact⟨0,[],none,0,rfl,rfl,WInv.zero l,World.ownsRow_nil _ _ _ _,λg hg=>(by cases hg),zBr _ _⟩
 case round=>
  obtain⟨c,O,Qn,cap3,rfl,rfl,hI,hO⟩:=hrel;have x8:=hI.c0;have hOl:=hI.len;have HI:=zh hI;by_cases hc:c<=1114111
  . have HO:=zh (zAi hO hO.1)
    have Hb:=aU HR.o λg hg=>hO.2.2.block g (uR HR.o g hg);have xi:=zh Hb;clear hI hO Hb;go_wp2_with (fail);obtain⟨w3,YG⟩:=zE (wr);rw[<-YG] at HO xi ⊢;clear YG;go_loopw [5,6,7] (λs5 s6 s7 wr=>∃ (i:Nat) (N:Int),s7=.int .i64 i/\s5=.int .i64 N/\s6=.bool false/\i<=l.length/\zbo l c N i/\wr=w3) (λ_ _ s7 _=>l.length-(RowKit.intOf s7).toNat)
    case atStart=>exact⟨0,1114112,rfl,rfl,rfl,zZ _,⟨λj r hj=>by omega,.inl rfl⟩,rfl⟩
    case round=>
     obtain⟨i,N,rfl,rfl,rfl,hi,hN,rfl⟩:=hrel;by_cases xm:i<l.length
     . have z1:(i:Int)<(l.length:Int):=by omega
       obtain⟨⟨lo,Kk⟩,C8⟩:∃ r,l[i]?=some r:=⟨_,zLe xm⟩;obtain⟨g,rfl⟩:∃ g,ao=some ⟨g,0,none⟩:=by
        rcases bD xi.o with⟨_,e⟩|⟨g,cap,e,_⟩
        . omega
        cases e;exact⟨g,rfl⟩
       obtain⟨q0,q1⟩:=zaH l i _ C8;have r0:=aE xi.o _ _ q0;have r1:=aE xi.o _ _ q1;have ui:=zW i (by omega);have YE:=HL.o _ (zM C8);dsimp only at r0 r1 YE;have Ku:=YE.2.2;rw[dS] at Ku;have Bm:=zh (zAi C8 YE);have HN:=zh hN;clear q0 q1 C8 YE hN;by_cases h1:lo<=c/\c<=Kk
       . have y1:lo<=c:=h1.1
         have y2:c<=Kk:=h1.2;have hwh:IntKind.i64.wrap (Kk+1)=Kk+1:=zIn _ (by omega);have Hm:=HI.o.hit (zM Bm.o.1) HL.o h1.1 h1.2;have HF:=zh Hm;clear Hm h1;have Xi:c<55296\/(¬ c<55296/\57343<c)\/(¬ c<55296/\¬ 57343<c/\57344<Kk+1)\/(¬ c<55296/\¬ 57343<c/\¬ 57344<Kk+1):=by omega
         have HY:=zh (zAi y2 Xi);clear Xi;go_upto_region 14 with (fail)
         clear y1 y2 r0 r1
         rcases HY.o.2 with y3|⟨y3,y4⟩|⟨y3,y4,y5⟩|⟨y3,y4,y5⟩
         all_goals
          go_wp2_with (fail);go_roundw
          case rel=>exact⟨Kk+1,O,Qn,cap3,rfl,rfl,HF.o,HO.o.1⟩
          case measure=>have:=HY.o.1;(simp[RowKit.intOf]<;>omega)
       have Xi:(¬ lo<=c)\/(lo<=c/\¬ c<=Kk):=by omega
       rcases Xi with y1|⟨y1,y2⟩
       . have y3:c<lo:=by omega
         by_cases h4:lo<N
         . go_wp2_with (fail)
           go_roundw
           case rel=>exact⟨i+1,lo,by go_num,rfl,rfl,by omega,⟨λj r hj hr=>by
            rcases (by omega:j<i\/j=i) with e|rfl
            . have h9:=HN.o.1 j r e hr
              exact⟨h9.1,λh8=>by have:=h9.2 h8;omega⟩
            . rw[Bm.o.1] at hr
              cases hr;exact⟨by dsimp only;omega,λ_=>Int.le_refl _⟩,.inr ⟨_,zM Bm.o.1,rfl,y3⟩⟩,trivial⟩
           case measure=>(simp[zI]<;>omega)
         go_wp2_with (fail)
         go_roundw
         case rel=>exact⟨i+1,N,by go_num,rfl,rfl,by omega,⟨λj r hj hr=>by
          rcases (by omega:j<i\/j=i) with e|rfl
          . exact HN.o.1 j r e hr
          . rw[Bm.o.1] at hr
            cases hr;exact⟨by dsimp only;omega,λ_=>by dsimp only;omega⟩,HN.o.2⟩,trivial⟩
         case measure=>(simp[zI]<;>omega)
       have y3:¬ c<lo:=by omega
       go_wp2_with (fail);go_roundw
       case rel=>exact⟨i+1,N,by go_num,rfl,rfl,by omega,⟨λj r hj hr=>by
        rcases (by omega:j<i\/j=i) with e|rfl
        . exact HN.o.1 j r e hr
        . rw[Bm.o.1] at hr
          cases hr;exact⟨by dsimp only;omega,λh8=>by dsimp only at h8;omega⟩,HN.o.2⟩,trivial⟩
       case measure=>(simp[zI]<;>omega)
     have z1:¬ (i:Int)<(l.length:Int):=by omega
     obtain rfl:i=l.length:=by omega
     obtain⟨n1,n2,_,_⟩:=hN.facts HL.o hc;have Hm:=HI.o.gap HL.o hc hN;have hwN:IntKind.i64.wrap (N-1)=N-1:=zIn _ (by omega);by_cases hs:c<55296\/57343<c\/57344<N
     . rw[zP hs] at Hm
       have HF:=zh Hm;have Xi:c<55296\/(¬ c<55296/\57343<c)\/(¬ c<55296/\¬ 57343<c/\57344<N):=by omega
       clear Hm hN hs;have Nf:=HO;have HO:=zh (zAi trivial Nf.o.1)
       rcases Xi with y3|⟨y3,y4⟩|⟨y3,y4,y5⟩
       all_goals
        go_wp2_with (first|(at_builtin;refine bK _ rfl _ _ rfl rH _ _ _ rfl (by exact aZ HO.o.2.1 ((zBr _ _).alloc (zR _) _)) ⟨wr.heap.size,0,none⟩ 1 1 [.int .i64 c,.int .i64 (N-1)] rfl rfl (cM _ #[.int .i64 c,.int .i64 (N-1)] _ _ rfl) (by simp[Value.oneCell']) (by decide) (by omega) (by decide) ?_;intro v4 w4 Ho qj Qb;obtain⟨g4,Hx,rfl⟩:=bV Ho;have H4:=zh (zAi Ho (zAi qj Qb));clear Ho qj Qb));go_roundw
        case rel=>exact⟨N,O++[(c,N-1)],some ⟨g4,0,none⟩,Hx,rfl,by simp,HF.o,HO.o.2.app H4.o.1 H4.o.2.1 H4.o.2.2⟩
        case measure=>(simp[zI]<;>omega)
     rw[zN hs] at Hm
     have HF:=zh Hm;have y3:¬ c<55296:=by omega
     have y4:¬ 57343<c:=by omega
     have y5:¬ 57344<N:=by omega
     clear Hm hN hs;go_wp2_with (fail);go_roundw
     case rel=>exact⟨N,O,Qn,cap3,rfl,rfl,HF.o,HO.o.1⟩
     case measure=>(simp[zI]<;>omega)
  have hd:=hI.done hc
  have td:=hI.live;clear hI;go_wp2_with (fail);go_ret;exact⟨O,_,rfl,hO,hd.1,hd.2,λa b h=>td (a,b) h⟩
theorem xM :∀ (f p v d:Nat) (v' d' q:Nat),cX s k f p v d=.ok (v',d',q)->p<=q
 | 0,p,v,d,v',d',q,h=>by rw[cX] at h;cases h
 | f+1,p,v,d,v',d',q,h=>by
  rw[cX] at h;split at h
  . split at h
    . cases h
    split at h
    . cases h
    have:=xM f _ _ _ _ _ _ h;omega
  cases h;exact zR _
theorem coded_ok (h:dZ s p k=.ok (c,q)):p<q/\cH c=true:=by
 unfold dZ at h;split at h
 . split at h
   . cases h
   rename_i v d q' hl
   split at h
   . rename_i hh
     cases h;have:=xM _ _ _ _ _ _ _ hl;refine⟨by omega,?_⟩;rw[dS];omega
   cases h
 cases h
theorem one_valid (h:0<=(bQ s p).1):cH (bQ s p).1=true/\1<=(bQ s p).2:=by
 unfold bQ at h ⊢;by_cases hp:p<s.size
 . rw[zP hp] at h ⊢
   by_cases hb:(Utf8.decode s p).1=65533/\(Utf8.decode s p).2=1
   . rw[zP hb] at h;exact absurd h (by decide)
   rw[zN hb] at h ⊢
   obtain⟨c,k,hx,hh⟩:=jA s p hp hb;rw[hx];dsimp only;rw[dS];omega
 rw[zN hp] at h;exact absurd h (by decide)
theorem za8 (hp:p<=s.size) (h0:0<=(bQ s p).1) (h:bP s p=.ok (c,q)):p<q/\cH c=true:=by
 have hv:=one_valid h0;by_cases Ke:(bQ s p).1=92
 . obtain⟨h1,_⟩:=zeV Ke
   rw[yK (Prod.ext Ke h1)] at h;split at h
   . split at h
     . cases h;exact⟨by omega,by decide⟩
     split at h
     . cases h;exact⟨by omega,by decide⟩
     split at h
     . cases h;exact⟨by omega,by decide⟩
     split at h
     . have:=coded_ok h;exact⟨by omega,this.2⟩
     split at h
     . rename_i hc
       cases h;have:=zdP hc;exact⟨by omega,by rw[dS];omega⟩
     cases h
   cases h
 rw[sC hp (by omega) Ke] at h
 cases h;exact⟨by omega,hv.1⟩
def rD (nt:Bool) (k:Nat) (r:Except jU (List (Int×Int)×Nat)):Except jU (List (Int×Int)×Nat):=
 match r with
 | .error e=>.error e
 | .ok (l,q)=>if nt=true then (if iL l=[] then .error (3,k) else .ok (iL l,q+1)) else .ok (l,q+1)
theorem sY (h:cD s p=.ok c):dH s p k=rD (decide (c=94)) k (dM s (s.size+2) (if c=94 then p+1 else p) []):=by
 unfold dH rD;rw[h];dsimp only;generalize dM s (s.size+2) (if c=94 then p+1 else p) []=r;cases r with
 | error e=>rfl
 | ok lq=>
  obtain⟨l,q⟩:=lq;dsimp only;by_cases hc:c=94
  . simp[hc]
  simp[hc]
theorem xU {f:Nat} :dM s (f+1) q l=
 match cD s q with
 | .error e=>.error e
 | .ok c=>if c=93/\l≠[] then .ok (l,q) else match iB s q with| .error e=>.error e| .ok (x,q)=>dM s f q (l++[x]):=by
 rw[dM];by_cases hl:l=[]
 . subst hl
   rw[zP rfl];cases hp:cD s q with
   | error e=>
    have:iB s q=.error e:=by unfold iB lJ;rw[hp]
    rw[this]
   | ok c=>
    dsimp only;rw[zN (λh=>h.2 rfl)];cases iB s q<;>rfl
 rw[zN hl]
 cases hp:cD s q with
 | error e=>rfl
 | ok c=>
  dsimp only;by_cases hc:c=93
  . rw[zP hc,zP ⟨hc,hl⟩]
  rw[zN hc,zN (λh=>hc h.1)]
  cases iB s q<;>rfl
section
variable {B pb:Nat} {s:ByteArray} {x:Pr} {lv:Value} {w wr wa w4:World} {vo:Option Nat}
theorem eW.grown (h:eW B pb s x lv wr) (hb:Below wr.heap.size wr wa) (hg:wa.grownBy w4 vo) (hp:vo≠some pb) (hl:∀ g,lv.ownBlock=some g->vo≠some g) (hr:∀ d∈x.ns,∀ g,d.r.ownBlock=some g->vo≠some g):eW B pb s x lv w4:=by
 have h1:=h.below hb;exact⟨(hg.block pb h1.lt (λe=>hp e.symm)).trans h1.blk,aU h1.row λg QE=>hg.block g (h1.rlt g QE) (λe=>hl g QE e.symm),h1.low,h1.sz,λd hd=>⟨aU (h1.rg d hd).1 λg QE=>hg.block g (uR (h1.rg d hd).1 g QE) (λe=>hr d hd g QE e.symm),(h1.rg d hd).2⟩,h1.nb⟩
theorem PK.grown {v v':Value} (h:PK pb v v' w wr) (hb:Below wr.heap.size wr wa) (hg:wa.grownBy w4 vo) (hvo:∀ g,vo=some g->w.heap.size<=g):PK pb v v' w w4:=
 ⟨hg.os.trans (hb.os.trans h.os),hg.tape.trans (hb.tape.trans h.tape),hg.output.trans (hb.output.trans h.output),zT h.size (zT hb.size hg.size),
  λb h1 h2 h3=>(hg.block b (by have:=h.size;have:=hb.size;omega) (λe=>by have:=hvo b e.symm;omega)).trans ((hb.block b (by have:=h.size;omega)).trans (h.keep b h1 h2 h3)),h.new⟩
theorem ze4 {v v':Value} {v8:Value} (h:wr.ownsRow 0 304 2 v8 l.length (eQ l)) (hk:PK pb v v' wr w4) (hp:∀ g,v8.ownBlock=some g->g≠pb/\v.ownBlock≠some g):w4.ownsRow 0 304 2 v8 l.length (eQ l):=
 aU h λg hg=>hk.keep g (uR h g hg) (hp g hg).1 (hp g hg).2
end
theorem xG :∀ (f p v d:Nat),d+f=8->d<=6->cX s k f p v d=.error er->er=(2,k)
 | 0,p,v,d,h1,h2,_=>by omega
 | f+1,p,v,d,h1,h2,h=>by
  rw[cX] at h;split at h
  . split at h
    . cases h;rfl
    split at h
    . cases h;rfl
    exact xG f _ _ _ (by omega) (by omega) h
  cases h
theorem coded_err (h:dZ s p k=.error er):er=(2,k):=by
 unfold dZ at h;split at h
 . split at h
   . rename_i e hl
     cases h;exact xG 8 _ _ _ rfl (by omega) hl
   split at h
   . cases h
   cases h;rfl
 cases h;rfl
theorem oV (hp:p<=s.size) (h:bP s p=.error er):er=(2,p):=by
 by_cases hb:(bQ s p).1<0/\0<(bQ s p).2
 . rw[zbK hp hb] at h;cases h;rfl
 by_cases Ke:(bQ s p).1=92
 . rw[yK (Prod.ext Ke (zeV Ke).1)] at h
   split at h
   . split at h
     . cases h
     split at h
     . cases h
     split at h
     . cases h
     split at h
     . exact coded_err h
     split at h
     . cases h
     cases h;rfl
   cases h;rfl
 rw[sC hp hb Ke] at h;cases h
theorem lO (h:0<=(bQ s p).1/\(bQ s p).1<128):(bQ s p).2=1/\p<s.size:=by
 by_cases hp:p<s.size
 . by_cases hb:cE s p<128
   . rw[zd6 hp hb];exact⟨rfl,hp⟩
   rcases (zck hp hb).1 with e|e<;>omega
 rw[oI hp] at h;exact absurd h (by decide)
def FailS (s:ByteArray) (x:Pr) (k:Nat) (y:Pr):Prop:=∃ (q:Nat) (er:jU),x.aQ<=q/\q<=s.size/\y={x with aQ:=q,e:=er.1,wh:=er.2}/\er.1≠0/\dH s x.aQ k=.error er
def GoS (s:ByteArray) (x:Pr) (k:Nat) (nt:Bool) (l:List (Int×Int)) (y:Pr):Prop:=∃ q f:Nat,x.aQ<=q/\q<=s.size/\y={x with aQ:=q}/\s.size<f+q/\sS l/\l.length<=q/\dH s x.aQ k=rD nt k (dM s f q l)
def DoneS (s:ByteArray) (x:Pr) (k:Nat) (nt:Bool) (l:List (Int×Int)) (y:Pr):Prop:=∃ q:Nat,x.aQ<=q+1/\q+1<=s.size/\y={x with aQ:=q+1}/\sS l/\l.length<=60/\dH s x.aQ k=rD nt k (.ok (l,q))
def ClassO (B pb:Nat) (s:ByteArray) (x:Pr) (res:Except jU (List (Int×Int)×Nat)) (lv:Value) (w:World) (e:Ending) (w':World):Prop:=
 ∃ (v:Value) (l':List (Int×Int)) (y:Pr),e=.returned v/\PrO B pb s y lv w w'/\w'.ownsRow 0 304 2 v l'.length (eQ l')/\(∀ g,v.ownBlock=some g->w.heap.size<=g)/\OkR s x y (res.map (·.2))/\
  ∀ l q,res=.ok (l,q)->lF l' l/\∀ r∈l',0<=r.1/\r.1<=1114111/\0<=r.2/\r.2<=1114111
def RwS (w:World) (l:List (Int×Int)) (v:Value) (wr:World):Prop:=wr.ownsRow 0 304 2 v l.length (eQ l)/\∀ g,v.ownBlock=some g->w.heap.size<=g
section
variable {B pb:Nat} {s:ByteArray} {x y:Pr} {lv:Value} {w wr w4:World} {l:List (Int×Int)} {v8:Value}
theorem RwS.keep {wb:World} (h:RwS w l v8 wr) (hk:PK pb lv lv wr wb) (hp:pb<w.heap.size) (td:∀ g,lv.ownBlock=some g->g<w.heap.size):RwS w l v8 wb:=
 ⟨ze4 h.1 hk λg hg=>⟨by have:=h.2 g hg;omega,λe=>by have:=h.2 g hg;have:=td g e;omega⟩,h.2⟩
theorem RwS.app {a b:Int} {o:Obj} {v4:Value} (h:RwS w l v8 wr) (hx:eW B pb s y lv wr) (hk:PK pb lv lv w wr) (hp:pb<w.heap.size) (td:∀ g,lv.ownBlock=some g->g<w.heap.size) (hr:∀ d∈y.ns,∀ g,d.r.ownBlock=some g->g<w.heap.size)
 (Hb:w4.ownsRow 0 304 2 v4 (l.length+1) (eQ l++[.int .i64 a,.int .i64 b])) (hg:(wr.alloc o).grownBy w4 v8.ownBlock) (Hz:v4.ownBlock=v8.ownBlock\/v4.ownBlock=some (wr.alloc o).heap.size):
 RwS w (l++[(a,b)]) v4 w4/\eW B pb s y lv w4/\PK pb lv lv w w4:=by
 have e:eQ (l++[(a,b)])=eQ l++[.int .i64 a,.int .i64 b]:=by simp[eQ]
 have hb:Below wr.heap.size wr (wr.alloc o):=(zBr _ _).alloc (zR _) _;refine⟨⟨by rw[e,zLn];exact Hb,fW Hz h.2 (by have:=hk.size;simp;omega)⟩,hx.grown hb hg (λe=>by have:=h.2 pb e;omega) (λg QE e=>by have:=h.2 g e;have:=td g QE;omega) (λd hd g QE e=>by have:=h.2 g e;have:=hr d hd g QE;omega),hk.grown hb hg h.2⟩
end
theorem zaZ {y:Pr} (h:y.e≠0):dR s y=y:=by
 unfold dR;split
 . unfold eH
   rw[zN h]
 rfl
theorem item_edge (h:cD s q=.ok c) (hs:c= -1\/c=91\/c=93\/c=45):iB s q=.error (2,q):=by
 unfold iB lJ;rw[h];dsimp only;rw[zP hs]
theorem item_lo (h:cD s q=.ok c) (hs:¬ (c= -1\/c=91\/c=93\/c=45)):iB s q=match bP s q with
 | .error e=>.error e
 | .ok (lo,q1)=>match cD s q1 with
  | .error e=>.error e
  | .ok c=>if c=45 then (match lJ s (q1+1) with| .error e=>.error e| .ok (hi,q2)=>if hi<lo then .error (3,q) else .ok ((lo,hi),q2)) else .ok ((lo,lo),q1):=by
 unfold iB;rw[show lJ s q=bP s q by unfold lJ;rw[h];dsimp only;rw[zN hs]];cases bP s q with
 | error e=>rfl
 | ok r=>
  obtain⟨lo,q1⟩:=r;dsimp only;cases cD s q1 with
  | error e=>rfl
  | ok c=>
   dsimp only;split
   . cases lJ s (q1+1) with
     | error e=>rfl
     | ok r=>rfl
   rfl
theorem zfP (B pb:Nat) (s:ByteArray) (x:Pr) (lv:Value) (w:World) (h:eW B pb s x lv w) (he:x.e=0) (k:Nat) (hk:k<=60):
 Calls Tryz.prog 174 #[bJ pb,.int .i64 k] w (ClassO B pb s x (dH s x.aQ k) lv w):=by
 have HE:=zh he;have hz:=h.sz;have HB:=zh (zAi h.lt (zAi h.rlt (zAi (λd hd=>uR (h.rg d hd).1:∀ d∈x.ns,∀ g,d.r.ownBlock=some g->g<w.heap.size) hk)));have qe:=gQ B pb s x lv w h;have vk:zH (dR s x=if (bQ s x.aQ).1<0/\0<(bQ s x.aQ).2 then eH x 2 x.aQ else x):=zh rfl;have qy:=zh (eT s x.aQ);have YZ:=zh (lO (s:=s) (p:=x.aQ));have Qt:=mJ s x.aQ hz.2.1;generalize dR s x=y1 at qe vk;generalize bQ s x.aQ=cn at qe Qt vk qy YZ
 obtain⟨c,n⟩:=cn;dsimp only at qe Qt vk qy YZ;unfold bJ at qe ⊢;have Qj:=zh qe;clear qe h he;go_enter Tryz.func174,Tryz.ntmps174;go_upto_if 22 with (go_at_call 150;refine Qj.o.mono ?_;rintro e' w1 ⟨rfl,ho⟩;have H1:=zh ho;clear ho);go_cut [5] (λs5 wx=>∃ (nt:Bool) (y:Pr),s5=.bool nt/\eW B pb s y lv wx/\PK pb lv lv w wx/\(FailS s x k y\/GoS s x k nt [] y))
 case first=>
  obtain⟨d0,d1,d2,_⟩:=H1.o.1.cells;have f1:=aM w1 pb 1 _ _ H1.o.1.blk;by_cases hc:c=94
  . have wK:y1=x:=by rw[vk.o,zN (by omega)]
    obtain⟨yj,Qu⟩:=YZ.o (by omega);have qz:cD s x.aQ=.ok c:=by rw[qy.o,zN (by omega)]
    have Hl:=sY (k:=k) qz;rw[zP hc,decide_eq_true hc] at Hl;have Hq:=zh Hl;subst hc;subst yj;have DX:=H1.o;rw[wK] at d1 DX;have qb:=DX.1.set 1 (.int .i64 ((x.aQ:Int)+1)) {x with aQ:=x.aQ+1} (by simp) rfl ⟨by show x.aQ+1<=s.size;omega,DX.1.sz.2.2.1,DX.1.sz.2.2.2⟩;have HF:=zh (zAi qb (DX.2.trans (PK.set (pb:=pb) (v:=lv) 1 (w:=w1) (.int .i64 ((x.aQ:Int)+1)))));have yz:IntKind.i64.wrap ((x.aQ:Int)+1)=(x.aQ:Int)+1:=zIn _ (by omega);clear wK qz Hl DX qb
    go_wp2_with (fail);go_meet;exact⟨true,_,rfl,HF.o.1,HF.o.2,.inr ⟨x.aQ+1,s.size+2,by omega,by omega,rfl,by omega,(λr hr=>(by cases hr)),by simp,Hq.o⟩⟩
  . have lp:(c==94)=false:=by simp[hc]
    have vp:FailS s x k y1\/GoS s x k false [] y1:=by
     by_cases hb:c<0/\0<n
     . refine .inl ⟨x.aQ,(2,x.aQ),zR _,hz.2.1,?_,by show (2:Nat)≠0;decide,?_⟩
       . rw[vk.o,zP hb]
         unfold eH;rw[zP HE.o]
       unfold dH
       rw[qy.o,zP hb]
     refine .inr ⟨x.aQ,s.size+2,zR _,hz.2.1,by rw[vk.o,zN hb],by omega,(λr hr=>(by cases hr)),by simp,?_⟩
     have qz:cD s x.aQ=.ok c:=by rw[qy.o,zN hb]
     have Hl:=sY (k:=k) qz;rw[zN hc,decide_eq_false hc] at Hl;exact Hl
    have XJ:=zh vp;clear vp hc;go_wp2_with (fail);go_meet;exact⟨false,_,rfl,H1.o.1,H1.o.2,XJ.o⟩
 case rest=>
  obtain⟨nt,y,rfl,Qy,yi,Tp⟩:=hcut;have H2:=zh (zAi Qy (zAi yi Tp));clear Qy yi Tp
  go_upto_block 0 with (fail)
  go_cut [8] (λs8 wx=>∃ (ao:Option Addr) (cap:Nat) (l:List (Int×Int)) (y:Pr),s8=.slice ao l.length cap/\RwS w l s8 wx/\eW B pb s y lv wx/\PK pb lv lv w wx/\(FailS s x k y\/DoneS s x k nt l y))
  case first=>
   go_wp2_with (fail);go_loopg [8] 200 (λgh s8 wr=>∃ (G:Nat) (ao:Option Addr) (cap:Nat) (l:List (Int×Int)) (y:Pr),G=gh/\s8=.slice ao l.length cap/\RwS w l s8 wr/\eW B pb s y lv wr/\PK pb lv lv w wr/\((FailS s x k y/\l.length<=62)\/(GoS s x k nt l y/\s.size-y.aQ<G)))
   case atStart=>exact⟨200,none,0,[],y,rfl,rfl,⟨World.ownsRow_nil _ _ _ _,λg hg=>(by cases hg)⟩,H2.o.1,H2.o.2.1,H2.o.2.2.imp (λh=>⟨h,by simp⟩) (λh=>⟨h,by omega⟩)⟩
   case round=>
    obtain⟨G,ao,cap,l,y,hG,rfl,X7,hp,XU,Hl⟩:=hrel;have HG:=zh hG;clear hG;obtain⟨c0,c1,c2,_⟩:=hp.cells;have xi:=zh X7;have mf:=zh (zAi hp XU)
    rcases Hl with⟨hf,hl62⟩|⟨⟨q,f,h1,h2,rfl,h4,h5,h6,h7⟩,hgh⟩
    . have Ez:y.e≠0:=by
       obtain⟨q,er,_,_,h3,h4,_⟩:=hf;rw[h3];exact h4
      have z0:((y.e:Int)==0)=false:=by simp;omega
      have HF:=zh hf;clear hf X7 hp XU Ez;go_wp2_with (fail);go_meet;exact⟨ao,cap,l,y,rfl,xi.o,mf.o.1,mf.o.2,.inl HF.o⟩
    . dsimp only at c1 c2 hgh
      rw[HE.o] at c2;have qe:=gQ B pb s {x with aQ:=q} lv wr hp;have vk:zH (dR s {x with aQ:=q}=if (bQ s q).1<0/\0<(bQ s q).2 then eH {x with aQ:=q} 2 q else {x with aQ:=q}):=zh rfl;have qy:=zh (eT s q);have YZ:=zh (lO (s:=s) (p:=q));have BG:=zh (λ(c:Int) (q':Nat)=>za8 (s:=s) (p:=q) (q:=q') (c:=c) h2);have Qt:=mJ s q h2;obtain⟨f,rfl⟩:∃ g,f=g+1:=⟨f-1,by omega⟩;have yp:=xU (s:=s) (f:=f) (q:=q) (l:=l);dsimp only at qe
      generalize dR s {x with aQ:=q}=y3 at qe vk;generalize bQ s q=cn at qe Qt vk qy YZ BG;obtain⟨c,n⟩:=cn;dsimp only at qe Qt vk qy YZ BG;unfold bJ at qe;have Qj:=zh qe;have Hq:=zh (zAi h7 (zAi yp h5));have yf:zH (l.length<=60):=zh (by omega);clear qe h7 yp h5 X7 hp XU;go_upto_region 10 with (go_at_call 150;refine Qj.o.mono ?_;rintro e' w3 ⟨rfl,ho⟩;have H3:=zh ho;clear ho)
      have j0:=zh (xi.o.keep H3.o.2 HB.o.1 HB.o.2.1);have JI:=zh (mf.o.2.trans H3.o.2);obtain⟨d0,d1,d2,_⟩:=H3.o.1.cells;have f3:=aM w3 pb 1 _ _ H3.o.1.blk;clear c0 c1 c2;by_cases QX:c<0/\0<n
      . have Ip:y3={x with aQ:=q,e:=2,wh:=q}:=by
         rw[vk.o,zP QX];unfold eH;rw[zP HE.o]
        have Q3:=gP B pb s y3 lv w3 H3.o.1 2 q (by omega) (by omega);rw[show eH y3 2 q=y3 by rw[Ip];rfl] at Q3;unfold bJ at Q3;have J8:=zh Q3;have x8:c<0:=QX.1;have lp:(c==93)=false:=by simp;omega
        have qm:dH s x.aQ k=.error (2,q):=by
         rw[Hq.o.1,Hq.o.2.1,qy.o,zP QX];rfl
        have KB:=zh (zAi qm Ip);clear Q3 QX qm Ip;go_wp2_with (first|(go_at_call 126;refine J8.o.mono ?_;rintro e' w4 ⟨rfl,ho⟩;have H5:=zh ho;clear ho));go_meet;exact⟨ao,cap,l,y3,rfl,j0.o.keep H5.o.2 HB.o.1 HB.o.2.1,H5.o.1,JI.o.trans H5.o.2,.inl ⟨q,(2,q),h1,h2,KB.o.2,by show (2:Nat)≠0;decide,KB.o.1⟩⟩
      . have Ip:y3={x with aQ:=q}:=by rw[vk.o,zN QX]
        subst Ip;have ji:cD s q=.ok c:=by rw[qy.o,zN QX]
        dsimp only at d1 d2;rw[HE.o] at d2;by_cases hd:c=93/\l≠[]
        . obtain⟨rfl,qo⟩:=hd
          obtain⟨rfl,XB⟩:=YZ.o (by decide);have qb:=H3.o.1.set 1 (.int .i64 ((q:Int)+1)) {x with aQ:=q+1} (by simp) rfl ⟨by show q+1<=s.size;omega,H3.o.1.sz.2.2.1,H3.o.1.sz.2.2.2⟩;have Gz:=PK.set (pb:=pb) (v:=lv) 1 (w:=w3) (.int .i64 ((q:Int)+1));have Yf:=zh (zAi qb Gz);have Hv:dH s x.aQ k=rD nt k (.ok (l,q)):=by
           rw[Hq.o.1,Hq.o.2.1,ji];dsimp only;rw[zP ⟨rfl,qo⟩]
          have QB:=zh Hv;have zl:(0:Int)<(l.length:Int):=by
           have:0<l.length:=List.length_pos_iff.2 qo;omega
          have yz:=zW q (by omega);clear qb Gz Hv ji QX qo;go_wp2_with (fail);go_meet;exact⟨ao,cap,l,_,rfl,j0.o.keep Yf.o.2 HB.o.1 HB.o.2.1,Yf.o.1,JI.o.trans Yf.o.2,.inr ⟨q,by omega,XB,rfl,Hq.o.2.2,yf.o,QB.o⟩⟩
        . have VH:dH s x.aQ k=rD nt k (match iB s q with| .error e=>.error e| .ok (x,q)=>dM s f q (l++[x])):=by
           rw[Hq.o.1,Hq.o.2.1,ji];dsimp only;rw[zN hd]
           first|done|(cases iB s q<;>rfl)
          by_cases hs:c= -1\/c=91\/c=93\/c=45
          . have hit:=item_edge ji hs
            have qm:dH s x.aQ k=.error (2,q):=by rw[VH,hit];rfl
            have Q3:=gP B pb s {x with aQ:=q} lv w3 H3.o.1 2 q (by omega) (by omega);rw[show eH {x with aQ:=q} 2 q={x with aQ:=q,e:=2,wh:=q} by unfold eH;rw[zP HE.o]] at Q3;unfold bJ at Q3;have J8:=zh Q3;have KB:=zh qm;have QG:c=93->l=[]:=λe=>Classical.byContradiction λh=>hd ⟨e,h⟩;clear Q3 qm hit VH QX hd ji
            rcases hs with rfl|rfl|rfl|rfl
            case' inr.inr.inl=>
             obtain rfl:=QG rfl
            all_goals
             clear QG;go_wp2_with (first|(go_at_call 126;refine J8.o.mono ?_;rintro e' w4 ⟨rfl,ho⟩;have H5:=zh ho;clear ho));go_meet;exact⟨ao,cap,_,_,rfl,j0.o.keep H5.o.2 HB.o.1 HB.o.2.1,H5.o.1,JI.o.trans H5.o.2,.inl ⟨q,(2,q),h1,h2,rfl,by show (2:Nat)≠0;decide,KB.o⟩⟩
          . have hit:=item_lo ji hs
            rw[hit] at VH;have x8:¬ c<0:=by omega
            have z1:(c==93)=false:=by simp;omega
            have z2:(c==91)=false:=by simp;omega
            have z3:(c==45)=false:=by simp;omega
            have YE:=uS B pb s {x with aQ:=q} lv w3 H3.o.1 HE.o;dsimp only at YE;unfold bJ at YE;have BB:=zh YE;have mt:=zh (λ(c':Int) (q':Nat)=>BG.o c' q' (by omega));clear YE hit QX hd ji hs;go_upto_region 16 with (go_at_call 175;refine BB.o.mono ?_;rintro e' w5 ⟨v5,y5,rfl,Kr,JX,cm,NS,GY⟩;have H5:=zh (zAi Kr (zAi JX (zAi cm (zAi NS GY))));clear Kr JX cm NS GY)
            have Ug:=zh (j0.o.keep H5.o.1.2 HB.o.1 HB.o.2.1);have KG:=zh (JI.o.trans H5.o.1.2);have UO:=H5.o.2.2.2.1;have OS:=H5.o.2.2.2.2;have Z0:q<=60:=by omega
            clear d0 d1 d2 f3;cases JB:bP s q with
            | error er=>
             obtain rfl:=oV h2 JB;rw[JB] at UO VH;obtain⟨q5,k1,k2,rfl⟩:=UO;dsimp only at k1;have qm:dH s x.aQ k=.error (2,q):=by rw[VH];rfl
             have KB:=zh qm;have qe:=gQ B pb s {x with aQ:=q5,e:=2,wh:=q} lv w5 H5.o.1.1;rw[zaZ (show (2:Nat)≠0 by decide)] at qe;dsimp only at qe;generalize bQ s q5=c6 at qe;obtain⟨c6,n6⟩:=c6;unfold bJ at qe;have Qj:=zh qe;clear qe qm VH JB OS;go_upto_region 17 with (go_at_call 150;refine Qj.o.mono ?_;rintro e' w6 ⟨rfl,ho⟩;have H6:=zh ho;clear ho)
             obtain⟨_,_,e2,_⟩:=H6.o.1.cells;dsimp only at e2;have YR:=zh (Ug.o.keep H6.o.2 HB.o.1 HB.o.2.1);have jt:=zh (zAi H6.o.1 (KG.o.trans H6.o.2));have Vn:=zh HB.o.2.2.1
             go_wp2_with (first|(at_builtin;refine bK _ rfl _ _ rfl rH _ _ _ rfl (by exact aZ YR.o.1 ((zBr _ _).alloc (zR _) _)) ⟨w6.heap.size,0,none⟩ 1 1 [.int .i64 v5,.int .i64 v5] rfl rfl (cM _ #[.int .i64 v5,.int .i64 v5] _ _ rfl) (by simp[Value.oneCell']) (by decide) (by have:=yf.o;omega) (by decide) ?_;intro v4 w4 Ho qj Qb;obtain⟨g4,Hx,rfl⟩:=bV Ho;have H4:=zh (YR.o.app jt.o.1 jt.o.2 HB.o.1 HB.o.2.1 Vn.o Ho qj Qb);clear Ho qj Qb));go_roundg (G-1)
             case rel=>exact⟨G-1,some ⟨g4,0,none⟩,Hx,l++[(v5,v5)],{x with aQ:=q5,e:=2,wh:=q},rfl,by simp,H4.o.1,H4.o.2.1,H4.o.2.2,.inl ⟨⟨q5,(2,q),by omega,by omega,rfl,by simp,KB.o⟩,by simp;have:=yf.o;omega⟩⟩
             case measure=>have:=HG.o;omega
            | ok r=>
             obtain⟨lo,q1⟩:=r;obtain rfl:=OS lo q1 JB;obtain⟨SZ,DS⟩:=mt.o v5 q1 JB;rw[JB] at UO VH;obtain⟨rfl,_,OA⟩:=UO;dsimp only at VH;have qe:=gQ B pb s {x with aQ:=q1} lv w5 H5.o.1.1;have ju:zH (dR s {x with aQ:=q1}=if (bQ s q1).1<0/\0<(bQ s q1).2 then eH {x with aQ:=q1} 2 q1 else {x with aQ:=q1}):=zh rfl;have xx:=zh (eT s q1);have p8:=zh (lO (s:=s) (p:=q1));have Xt:=mJ s q1 OA;dsimp only at qe
             generalize dR s {x with aQ:=q1}=y6 at qe ju;generalize bQ s q1=dn at qe ju xx p8 Xt;obtain⟨d,n2⟩:=dn;dsimp only at qe ju xx p8 Xt;unfold bJ at qe;have Qj:=zh qe;have EK:=zh VH;clear qe JB OS VH;go_upto_region 17 with (go_at_call 150;refine Qj.o.mono ?_;rintro e' w6 ⟨rfl,ho⟩;have H6:=zh ho;clear ho)
             obtain⟨e0,e1,e2,_⟩:=H6.o.1.cells;have fe6:=aM w6 pb 1 _ _ H6.o.1.blk;have Bx:=zh (Ug.o.keep H6.o.2 HB.o.1 HB.o.2.1);have XZ:=zh (KG.o.trans H6.o.2);by_cases VC:d<0/\0<n2
             . have rm:y6={x with aQ:=q1,e:=2,wh:=q1}:=by rw[ju.o,zP VC];unfold eH;rw[zP HE.o]
               subst rm;dsimp only at e2;have qm:dH s x.aQ k=.error (2,q1):=by
                rw[EK.o,xx.o,zP VC];rfl
               have KB:=zh qm;clear qm VC;have YR:=zh Bx.o;have jt:=zh (zAi H6.o.1 XZ.o);have Vn:=zh HB.o.2.2.1
               go_wp2_with (first|(at_builtin;refine bK _ rfl _ _ rfl rH _ _ _ rfl (by exact aZ YR.o.1 ((zBr _ _).alloc (zR _) _)) ⟨w6.heap.size,0,none⟩ 1 1 [.int .i64 v5,.int .i64 v5] rfl rfl (cM _ #[.int .i64 v5,.int .i64 v5] _ _ rfl) (by simp[Value.oneCell']) (by decide) (by have:=yf.o;omega) (by decide) ?_;intro v4 w4 Ho qj Qb;obtain⟨g4,Hx,rfl⟩:=bV Ho;have H4:=zh (YR.o.app jt.o.1 jt.o.2 HB.o.1 HB.o.2.1 Vn.o Ho qj Qb);clear Ho qj Qb));go_roundg (G-1)
               case rel=>exact⟨G-1,some ⟨g4,0,none⟩,Hx,l++[(v5,v5)],{x with aQ:=q1,e:=2,wh:=q1},rfl,by simp,H4.o.1,H4.o.2.1,H4.o.2.2,.inl ⟨⟨q1,(2,q1),by omega,by omega,rfl,by simp,KB.o⟩,by simp;have:=yf.o;omega⟩⟩
               case measure=>have:=HG.o;omega
             . have rm:y6={x with aQ:=q1}:=by rw[ju.o,zN VC]
               subst rm;dsimp only at e1 e2;rw[HE.o] at e2;have Ow:cD s q1=.ok d:=by rw[xx.o,zN VC]
               have Jg:=EK.o;rw[Ow] at Jg;dsimp only at Jg;by_cases CS:d=45
               . rw[zP CS] at Jg
                 subst CS;obtain⟨rfl,ZZ⟩:=p8.o (by decide);have qb:=H6.o.1.set 1 (.int .i64 ((q1:Int)+1)) {x with aQ:=q1+1} (by simp) rfl ⟨by show q1+1<=s.size;omega,H6.o.1.sz.2.2.1,H6.o.1.sz.2.2.2⟩;have Yf:=zh (zAi qb (PK.set (pb:=pb) (v:=lv) 1 (w:=w6) (.int .i64 ((q1:Int)+1))));have yz:=zW q1 (by omega);have bu:=zh Jg;clear qb Jg Ow VC;go_upto_region 19 with (fail)
                 obtain⟨w7,O1⟩:=zE (w6.setCell ⟨pb,1,none⟩ (.int .i64 ((q1:Int)+1)));rw[<-O1] at Yf ⊢;clear O1 e0 e1 e2 fe6;have mn:=zh (Bx.o.keep Yf.o.2 HB.o.1 HB.o.2.1);have nv:=zh (XZ.o.trans Yf.o.2);have qe:=gQ B pb s {x with aQ:=q1+1} lv w7 Yf.o.1;have jv:zH (dR s {x with aQ:=q1+1}=if (bQ s (q1+1)).1<0/\0<(bQ s (q1+1)).2 then eH {x with aQ:=q1+1} 2 (q1+1) else {x with aQ:=q1+1}):=zh rfl;have yq:=zh (eT s (q1+1))
                 have BE:=zh (λ(c':Int) (q':Nat)=>za8 (s:=s) (p:=q1+1) (q:=q') (c:=c') (by omega));have GD:=mJ s (q1+1) (by omega);dsimp only at qe;generalize dR s {x with aQ:=q1+1}=y8 at qe jv;generalize bQ s (q1+1)=fn at qe jv yq BE GD;obtain⟨f9,n9⟩:=fn;dsimp only at qe jv yq BE GD;unfold bJ at qe;have Qj:=zh qe;clear qe
                 go_upto_region 20 with (go_at_call 150;refine Qj.o.mono ?_;rintro e' w8 ⟨rfl,ho⟩;have H8:=zh ho;clear ho)
                 obtain⟨g0,g1,g2,_⟩:=H8.o.1.cells;have Bz:=zh (mn.o.keep H8.o.2 HB.o.1 HB.o.2.1);have T9:=zh (nv.o.trans H8.o.2);by_cases X3:f9<0/\0<n9
                 . have ro:y8={x with aQ:=q1+1,e:=2,wh:=q1+1}:=by rw[jv.o,zP X3];unfold eH;rw[zP HE.o]
                   subst ro;dsimp only at g1;have Q3:=gP B pb s {x with aQ:=q1+1,e:=2,wh:=q1+1} lv w8 H8.o.1 2 (q1+1) (by omega) (by omega);rw[show eH {x with aQ:=q1+1,e:=2,wh:=q1+1} 2 (q1+1)={x with aQ:=q1+1,e:=2,wh:=q1+1} from rfl] at Q3;unfold bJ at Q3;have J8:=zh Q3;have qm:dH s x.aQ k=.error (2,q1+1):=by
                    rw[bu.o];unfold lJ;rw[yq.o,zP X3];rfl
                   have KB:=zh qm;have zf:f9<0:=X3.1;clear Q3 qm X3;go_wp2_with (first|(go_at_call 126;refine J8.o.mono ?_;rintro e' w9 ⟨rfl,ho⟩;have H9:=zh ho;clear ho));go_meet;exact⟨ao,cap,l,_,rfl,Bz.o.keep H9.o.2 HB.o.1 HB.o.2.1,H9.o.1,T9.o.trans H9.o.2,.inl ⟨q1+1,(2,q1+1),by omega,by omega,rfl,by show (2:Nat)≠0;decide,KB.o⟩⟩
                 have ro:y8={x with aQ:=q1+1}:=by rw[jv.o,zN X3]
                 subst ro;dsimp only at g1 g2;rw[HE.o] at g2;have Li:cD s (q1+1)=.ok f9:=by rw[yq.o,zN X3]
                 by_cases jn:f9= -1\/f9=91\/f9=93\/f9=45
                 . have qm:dH s x.aQ k=.error (2,q1+1):=by
                    rw[bu.o];unfold lJ;rw[Li];dsimp only;rw[zP jn];rfl
                   have Q3:=gP B pb s {x with aQ:=q1+1} lv w8 H8.o.1 2 (q1+1) (by omega) (by omega);rw[show eH {x with aQ:=q1+1} 2 (q1+1)={x with aQ:=q1+1,e:=2,wh:=q1+1} by unfold eH;rw[zP HE.o]] at Q3;unfold bJ at Q3;have J8:=zh Q3;have KB:=zh qm;clear Q3 qm X3 Li
                   rcases jn with rfl|rfl|rfl|rfl
                   all_goals
                    go_wp2_with (first|(go_at_call 126;refine J8.o.mono ?_;rintro e' w9 ⟨rfl,ho⟩;have H9:=zh ho;clear ho));go_meet;exact⟨ao,cap,l,_,rfl,Bz.o.keep H9.o.2 HB.o.1 HB.o.2.1,H9.o.1,T9.o.trans H9.o.2,.inl ⟨q1+1,(2,q1+1),by omega,by omega,rfl,by show (2:Nat)≠0;decide,KB.o⟩⟩
                 have YC:=bu.o
                 unfold lJ at YC;rw[Li] at YC;dsimp only at YC;rw[zN jn] at YC;have y0:¬ f9<0:=by omega
                 have y1:(f9==93)=false:=by simp;omega
                 have y2:(f9==91)=false:=by simp;omega
                 have y3:(f9==45)=false:=by simp;omega
                 have YE:=uS B pb s {x with aQ:=q1+1} lv w8 H8.o.1 HE.o;dsimp only at YE;unfold bJ at YE;have BB:=zh YE;have mu:=zh (λ(c':Int) (q':Nat)=>BE.o c' q' (by omega));clear YE X3 Li jn;go_upto_region 23 with (go_at_call 175;refine BB.o.mono ?_;rintro e' w9 ⟨v9,y9,rfl,Kr,JX,cm,NS,GY⟩;have H9:=zh (zAi Kr (zAi JX (zAi cm (zAi NS GY))));clear Kr JX cm NS GY)
                 have Ad:=zh (Bz.o.keep H9.o.1.2 HB.o.1 HB.o.2.1);have aa:=zh (T9.o.trans H9.o.1.2);have UP:=H9.o.2.2.2.1;have tE:=H9.o.2.2.2.2;obtain⟨_,_,m2,_⟩:=H9.o.1.1.cells;clear g0 g1 g2;cases JC:bP s (q1+1) with
                 | error er=>
                  obtain rfl:=oV (by omega) JC;rw[JC] at UP YC;obtain⟨q9,k1,k2,rfl⟩:=UP;dsimp only at k1 m2;have qm:dH s x.aQ k=.error (2,q1+1):=by rw[YC];rfl
                  have KB:=zh qm;clear qm YC JC tE;have YR:=zh Ad.o;have jt:=zh (zAi H9.o.1.1 aa.o);have Vn:=zh HB.o.2.2.1
                  go_wp2_with (first|(at_builtin;refine bK _ rfl _ _ rfl rH _ _ _ rfl (by exact aZ YR.o.1 ((zBr _ _).alloc (zR _) _)) ⟨w9.heap.size,0,none⟩ 1 1 [.int .i64 v5,.int .i64 v9] rfl rfl (cM _ #[.int .i64 v5,.int .i64 v9] _ _ rfl) (by simp[Value.oneCell']) (by decide) (by have:=yf.o;omega) (by decide) ?_;intro v4 w4 Ho qj Qb;obtain⟨g4,Hx,rfl⟩:=bV Ho;have H4:=zh (YR.o.app jt.o.1 jt.o.2 HB.o.1 HB.o.2.1 Vn.o Ho qj Qb);clear Ho qj Qb));go_roundg (G-1)
                  case rel=>exact⟨G-1,some ⟨g4,0,none⟩,Hx,l++[(v5,v9)],{x with aQ:=q9,e:=2,wh:=q1+1},rfl,by simp,H4.o.1,H4.o.2.1,H4.o.2.2,.inl ⟨⟨q9,(2,q1+1),by omega,by omega,rfl,by simp,KB.o⟩,by simp;have:=yf.o;omega⟩⟩
                  case measure=>have:=HG.o;omega
                 | ok r=>
                  obtain⟨hi,q2⟩:=r;obtain rfl:=tE hi q2 JC;obtain⟨XX,OW⟩:=mu.o v9 q2 JC;rw[JC] at UP YC;obtain⟨rfl,_,OB⟩:=UP;dsimp only at YC m2;rw[HE.o] at m2;by_cases Hf:v9<v5
                  . rw[zP Hf] at YC
                    have qm:dH s x.aQ k=.error (3,q):=by rw[YC];rfl
                    have Q3:=gP B pb s {x with aQ:=q2} lv w9 H9.o.1.1 3 q (by omega) (by omega);rw[show eH {x with aQ:=q2} 3 q={x with aQ:=q2,e:=3,wh:=q} by unfold eH;rw[zP HE.o]] at Q3;unfold bJ at Q3;have J8:=zh Q3;have KB:=zh qm;clear Q3 qm YC JC tE;go_upto_region 25 with (go_at_call 126;refine J8.o.mono ?_;rintro e' Vi ⟨rfl,ho⟩;have Ls:=zh ho;clear ho)
                    have YR:=zh (Ad.o.keep Ls.o.2 HB.o.1 HB.o.2.1);have jt:=zh (zAi Ls.o.1 (aa.o.trans Ls.o.2));have Vn:=zh HB.o.2.2.1
                    go_wp2_with (first|(at_builtin;refine bK _ rfl _ _ rfl rH _ _ _ rfl (by exact aZ YR.o.1 ((zBr _ _).alloc (zR _) _)) ⟨Vi.heap.size,0,none⟩ 1 1 [.int .i64 v5,.int .i64 v9] rfl rfl (cM _ #[.int .i64 v5,.int .i64 v9] _ _ rfl) (by simp[Value.oneCell']) (by decide) (by have:=yf.o;omega) (by decide) ?_;intro v4 w4 Ho qj Qb;obtain⟨g4,Hx,rfl⟩:=bV Ho;have H4:=zh (YR.o.app jt.o.1 jt.o.2 HB.o.1 HB.o.2.1 Vn.o Ho qj Qb);clear Ho qj Qb))
                    go_roundg (G-1)
                    case rel=>exact⟨G-1,some ⟨g4,0,none⟩,Hx,l++[(v5,v9)],{x with aQ:=q2,e:=3,wh:=q},rfl,by simp,H4.o.1,H4.o.2.1,H4.o.2.2,.inl ⟨⟨q2,(3,q),by omega,by omega,rfl,by simp,KB.o⟩,by simp;have:=yf.o;omega⟩⟩
                    case measure=>have:=HG.o;omega
                  rw[zN Hf] at YC
                  have Vg:sS (l++[(v5,v9)]):=λr hr=>by
                   rcases List.mem_append.1 hr with hr|hr
                   . exact Hq.o.2.2 r hr
                   rw[zMs] at hr
                   rw[hr];exact⟨by dsimp only;omega,DS,OW⟩
                  have TB:=zh Vg;have YJ:=zh YC;clear Vg YC JC tE;have YR:=zh Ad.o;have jt:=zh (zAi H9.o.1.1 aa.o);have Vn:=zh HB.o.2.2.1
                  go_wp2_with (first|(at_builtin;refine bK _ rfl _ _ rfl rH _ _ _ rfl (by exact aZ YR.o.1 ((zBr _ _).alloc (zR _) _)) ⟨w9.heap.size,0,none⟩ 1 1 [.int .i64 v5,.int .i64 v9] rfl rfl (cM _ #[.int .i64 v5,.int .i64 v9] _ _ rfl) (by simp[Value.oneCell']) (by decide) (by have:=yf.o;omega) (by decide) ?_;intro v4 w4 Ho qj Qb;obtain⟨g4,Hx,rfl⟩:=bV Ho;have H4:=zh (YR.o.app jt.o.1 jt.o.2 HB.o.1 HB.o.2.1 Vn.o Ho qj Qb);clear Ho qj Qb))
                  go_roundg (G-1)
                  case rel=>exact⟨G-1,some ⟨g4,0,none⟩,Hx,l++[(v5,v9)],{x with aQ:=q2},rfl,by simp,H4.o.1,H4.o.2.1,H4.o.2.2,.inr ⟨⟨q2,f,by omega,by omega,rfl,by omega,TB.o,by simp;omega,YJ.o⟩,by show s.size-q2<G-1;omega⟩⟩
                  case measure=>have:=HG.o;omega
               . rw[zN CS] at Jg
                 have z45:(d==45)=false:=by simp[CS]
                 have Vg:sS (l++[(v5,v5)]):=λr hr=>by
                  rcases List.mem_append.1 hr with hr|hr
                  . exact Hq.o.2.2 r hr
                  rw[zMs] at hr
                  rw[hr];exact⟨Int.le_refl _,DS,DS⟩
                 have TB:=zh Vg;have YJ:=zh Jg;clear Vg Jg Ow VC CS;have YR:=zh Bx.o;have jt:=zh (zAi H6.o.1 XZ.o);have Vn:=zh HB.o.2.2.1
                 go_wp2_with (first|(at_builtin;refine bK _ rfl _ _ rfl rH _ _ _ rfl (by exact aZ YR.o.1 ((zBr _ _).alloc (zR _) _)) ⟨w6.heap.size,0,none⟩ 1 1 [.int .i64 v5,.int .i64 v5] rfl rfl (cM _ #[.int .i64 v5,.int .i64 v5] _ _ rfl) (by simp[Value.oneCell']) (by decide) (by have:=yf.o;omega) (by decide) ?_;intro v4 w4 Ho qj Qb;obtain⟨g4,Hx,rfl⟩:=bV Ho;have H4:=zh (YR.o.app jt.o.1 jt.o.2 HB.o.1 HB.o.2.1 Vn.o Ho qj Qb);clear Ho qj Qb));go_roundg (G-1)
                 case rel=>exact⟨G-1,some ⟨g4,0,none⟩,Hx,l++[(v5,v5)],{x with aQ:=q1},rfl,by simp,H4.o.1,H4.o.2.1,H4.o.2.2,.inr ⟨⟨q1,f,by omega,by omega,rfl,by omega,TB.o,by simp;omega,YJ.o⟩,by show s.size-q1<G-1;omega⟩⟩
                 case measure=>have:=HG.o;omega
  case rest=>
   obtain⟨ao,cap,l,y,rfl,ig,yx,A2,OM⟩:=hcut;obtain⟨_,_,d2,_⟩:=yx.cells;have H3:=zh (zAi ig (zAi yx A2));clear ig yx A2
   rcases OM with⟨q,er,h1,h2,h3,h4,h5⟩|⟨q,h1,h2,h3,h4,h5,h6⟩
   . have Ez:y.e≠0:=by rw[h3];exact h4
     have z0:((y.e:Int)==0)=false:=by simp;omega
     have HF:=zh (zAi h1 (zAi h2 (zAi h3 h5)));clear h1 h2 h3 h4 h5 Ez;go_wp2_with (fail);go_ret;refine⟨_,l,y,rfl,⟨H3.o.2.1,H3.o.2.2⟩,H3.o.1.1,H3.o.1.2,?_,λl' q' hh=> ?_⟩
     . rw[HF.o.2.2.2]
       exact⟨q,HF.o.1,HF.o.2.1,HF.o.2.2.1⟩
     rw[HF.o.2.2.2] at hh;cases hh
   have Ez:y.e=0:=by rw[h3];exact HE.o
   rw[Ez] at d2;have HF:=zh (zAi h1 (zAi h2 (zAi h3 (zAi h4 h6))));clear h1 h2 h3 h6 Ez;cases nt with
   | false=>
    go_wp2_with (fail);go_ret;refine⟨_,l,y,rfl,⟨H3.o.2.1,H3.o.2.2⟩,H3.o.1.1,H3.o.1.2,?_,λl' q' hh=> ?_⟩
    . rw[HF.o.2.2.2.2]
      exact⟨HF.o.2.2.1,HF.o.1,HF.o.2.1⟩
    . rw[HF.o.2.2.2.2] at hh
      cases hh;refine⟨lF.refl _,λr hr=> ?_⟩;have h9:=HF.o.2.2.2.1 r hr;rw[dS,dS] at h9;omega
   | true=>
    have Ij:=zel l ao cap wc H3.o.1.1 HF.o.2.2.2.1 (by omega);have WL:=zh Ij;clear Ij h4;go_upto_region 28 with (go_at_call 178;refine WL.o.mono ?_;rintro e' w5 ⟨O,v5,rfl,Kr,JX,cm,NS⟩;have H5:=zh (zAi Kr (zAi JX (zAi cm NS)));clear Kr JX cm NS)
    have TL:=H3.o.2.1.below H5.o.1.2.2;have Ob:=H3.o.2.2.trans (PK.of_below H5.o.1.2.2);have Ha:=za6 HF.o.2.2.2.1;have NL:=zfT HF.o.2.2.2.1;have gw:O=[]↔iL l=[]:=by
     constructor
     . intro e
       cases hr:iL l with
       | nil=>rfl
       | cons r t=>
        exfalso;have hm:r∈iL l:=by rw[hr];simp
        have hv:=NL r hm;have h9:=(Ha.2 r.1 hv).1 ⟨r,hm,Int.le_refl _,(Ha.1.ne r hm).2.1⟩;obtain⟨q',Dr,_⟩:=(H5.o.2.2.1 r.1 hv).2 h9;rw[e] at Dr;cases Dr
     intro e
     cases hr:O with
     | nil=>rfl
     | cons r t=>
      exfalso;have hm:r∈O:=by rw[hr];simp
      obtain⟨z,hv,h8,h7⟩:=H5.o.2.2.2 r hm;have h9:=(H5.o.2.2.1 z hv).1 ⟨r,hm,h8,h7⟩;obtain⟨q',Dr,_⟩:=(Ha.2 z hv).2 h9;rw[e] at Dr;cases Dr
    have F5:lF O (iL l):=apart_eq H5.o.2.1 Ha.1 λz hv=>by rw[H5.o.2.2.1 z hv,Ha.2 z hv]
    obtain⟨KN,Vs,rfl⟩:∃ KN Vs,v5=.slice KN O.length Vs:=by
     rcases bD H5.o.1.1 with⟨e,e'⟩|⟨g,cap,e,_⟩
     . exact⟨none,0,by rw[e,e']⟩
     exact⟨_,_,e⟩
    have Cp:w.heap.size<=wc.heap.size:=H3.o.2.2.size;have Bs:=zh (zAi TL (zAi Ob (zAi gw F5)));clear TL Ob Ha NL gw F5;have NN:∀ g,(Value.slice KN O.length Vs).ownBlock=some g->w.heap.size<=g:=λg hg=>zT Cp (H5.o.1.2.1 g hg);have VV:=zh NN;clear NN;by_cases hO:O=[]
    . have Q3:=gP B pb s y lv w5 Bs.o.1 3 k (by omega) HB.o.2.2.2
      have Sx:eH y 3 k={x with aQ:=q+1,e:=3,wh:=k}:=by rw[HF.o.2.2.1];unfold eH;rw[zP HE.o]
      rw[Sx] at Q3;unfold bJ at Q3;have J8:=zh Q3;have zl:(O.length:Int)=0:=by rw[hO];rfl
      have qm:dH s x.aQ k=.error (3,k):=by rw[HF.o.2.2.2.2];unfold rD;dsimp only;rw[zP rfl,zP (Bs.o.2.2.1.1 hO)]
      have KB:=zh qm;clear Q3 Sx qm;subst hO;go_wp2_with (first|(go_at_call 126;refine J8.o.mono ?_;rintro e' w6 ⟨rfl,Kr⟩;have H6:=zh Kr;clear Kr));go_ret;refine⟨_,[],_,rfl,⟨H6.o.1,Bs.o.2.1.trans H6.o.2⟩,ze4 H5.o.1.1 H6.o.2 (λg hg=>⟨by have:=VV.o g hg;have:=HB.o.1;omega,λe=>by have:=VV.o g hg;have:=HB.o.2.1 g e;omega⟩),VV.o,?_,λl' q' hh=> ?_⟩
      . rw[KB.o]
        exact⟨q+1,HF.o.1,HF.o.2.1,rfl⟩
      rw[KB.o] at hh;cases hh
    have zl:((O.length:Int)==0)=false:=by
     have:O.length≠0:=λe=>hO (List.length_eq_zero_iff.1 e);simp;exact hO
    have Hv:dH s x.aQ k=.ok (iL l,q+1):=by rw[HF.o.2.2.2.2];unfold rD;dsimp only;rw[zP rfl,zN (λe=>hO (Bs.o.2.2.1.2 e))]
    have QB:=zh Hv;clear Hv hO;go_wp2_with (fail);go_ret;refine⟨_,O,y,rfl,⟨Bs.o.1,Bs.o.2.1⟩,H5.o.1.1,VV.o,?_,λl' q' hh=> ?_⟩
    . rw[QB.o]
      exact⟨HF.o.2.2.1,HF.o.1,HF.o.2.1⟩
    rw[QB.o] at hh
    cases hh;exact⟨Bs.o.2.2.2,λr hr=>by have:=H5.o.2.1.ne r hr;omega⟩
