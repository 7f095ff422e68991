/- Part of a proof. No condition. -/
import Derived.Test.YtmfnmkccbldfpaaGreatDoorS34
import Derived.Test.YtmfnmkccbldfpaaGreatDoorS29
set_option linter.unusedVariables false
set_option linter.unusedSimpArgs false
set_option maxRecDepth 100000
set_option maxHeartbeats 16000000
namespace Go.Proofs.YtmfnmkccbldfpaaGreatDoor
open Go.RowKit Go.Lib Tryz
theorem zzDc {p:Prop} (h:p:=by
 rw[HR.o]
 exact⟨rfl,zg,zo⟩):p:=h
theorem zzDN {p:Prop} (h:p:=by
 rintro⟨q,hq,h2,h3⟩
 rcases h.sep r hr q hq with e|e|e
 all_goals grind):p:=h
theorem zzC9 {p:Prop} (h:p:=by rw[rI hp ht.get];exact hn):p:=h
theorem zzB6 {p:Prop} (h:p:=by
 have z5:¬ (97:Int)<=(b:Int):=zo
 clear e;go_in;go_wp2;go_ret;simp):p:=h
theorem zzBw {p:Prop} (h:p:=by
 go_quiet (fail);go_wp2;go_meet;exact⟨q,by have:=HQ.o;omega,th,Yw.o.1.below (aK Pt.o _),Yw.o.2.trans (PK.of_below (aK Pt.o _)),Vx.o⟩):p:=h
theorem zzBj {p:Prop} (h:p:=by have:=HM.o;omega):p:=h
theorem zzBS {p:Prop} (h:p:=by exact aN Xb.o.1 (iM.alloc bR _)):p:=h
theorem zzBA {p:Prop} (h:p:=by
 go_roundw
 case rel=>exact⟨i+1,N,by go_num,rfl,rfl,zo,⟨λj r hj hr=>by
  rcases (by omega:j<i\/j=i) with e|rfl
  . exact HN.o.1 j r e hr
  . rw[FC.o.1] at hr
    cases hr;omega,HN.o.2⟩,trivial⟩
 case measure=>exact zY):p:=h
theorem zzA2 {p:Prop} (h:p:=by
 go_wp2_with (first|(go_at_call 32;refine Tj.o.mono ?_;rintro e' w9 ⟨rfl,ho⟩;have H9:=zh ho;clear ho));go_meet;exact⟨ao,cap,l,_,rfl,FM.o.keep H9.o.2 HB.o.1 HB.o.2.1,H9.o.1,uk.o.trans H9.o.2,.inl ⟨q1+1,(2,q1+1),zo,zo,rfl,zo,JN.o⟩⟩):p:=h
variable {a b q p k i v:Nat} {r:Int×Int} {c:Int} {l O:θ} {s:η} {x:Pr} {N M:List Nd} {er:mP} {d:Nd} {t:aL}
def inR (l:θ) (c:Int):Prop:=∃ r∈l,r.1<=c/\c<=r.2
def lE (l:θ) (z:Int):Prop:=∃ r∈l,z=r.1\/(r.2<1114111/\z=r.2+1)
structure nY (a b:θ):Prop where
 inr:∀ c,cW c=true->(inR a c↔inR b c)
 cut:∀ z,z∉cJ->(lE a z↔lE b z)
theorem nY.refl (a:θ):nY a a:=⟨λ_ _=>Iff.rfl,λ_ _=>Iff.rfl⟩
structure vH (a:θ):Prop where
 ne:∀ r∈a,0<=r.1/\r.1<=r.2/\r.2<=1114111
 sep:∀ r∈a,∀ q∈a,r=q\/r.2+1<q.1\/q.2+1<r.1
 lo:∀ r∈a,cW r.1=true\/r.1∈cJ
 hi:∀ r∈a,cW (r.2+1)=true\/r.2+1∈cJ\/1114111<=r.2
theorem eW (c:Int):cW c=true↔(0<=c/\c<55296)\/(57343<c/\c<=1114111):=by
 simp[cW]
theorem xB (c:Int):c∈cJ↔c=0\/c=128\/c=2048\/c=55296\/c=57344\/c=65536:=by
 simp[cJ]
theorem vH.cut {a:θ} (h:vH a) {z:Int} (hz:z∉cJ):lE a z↔cW z=true/\((inR a z/\¬ inR a (z-1))\/(¬ inR a z/\inR a (z-1))):=by
 rw[xB] at hz;constructor
 . rintro⟨r,hr,hc⟩
   have:=h.ne r hr
   rcases hc with rfl|⟨h1,rfl⟩
   . refine⟨?_,.inl ⟨⟨r,hr,zo,zo⟩,?_⟩⟩
     . rcases h.lo r hr with e|e
       all_goals grind [xB]
     exact zzDN
   refine⟨?_,.inr ⟨?_,r,hr,zo,zo⟩⟩
   . rcases h.hi r hr with e|e|e
     all_goals grind [xB]
   exact zzDN
 rintro⟨hv,⟨⟨r,hr,h1,h2⟩,hn⟩|⟨hn,r,hr,h1,h2⟩⟩
 . refine⟨r,hr,.inl ?_⟩
   rcases (by omega:z-1<r.1\/r.1<=z-1) with e|e
   . omega
   exact absurd ⟨r,hr,e,zo⟩ hn
 refine⟨r,hr,.inr ?_⟩
 rw[eW] at hv
 rcases (by omega:r.2<z\/z<=r.2) with e|e
 . omega
 exact absurd ⟨r,hr,zo,e⟩ hn
theorem apart_eq {a b:θ} (ha:vH a) (hb:vH b) (h:∀ c,cW c=true->(inR a c↔inR b c)):nY a b:=by
 refine⟨h,λz hz=> ?_⟩;rw[ha.cut hz,hb.cut hz]
 grind [xB,eW]
theorem inR_cut {a:θ} (c:Int):inR (cutP a r) c↔inR a c/\¬ (r.1<=c/\c<=r.2):=by
 unfold inR cutP;constructor
 . grind
 rintro⟨⟨x,hx,h1,h2⟩,hn⟩
 by_cases hc:x.2<r.1\/x.1>r.2
 . grind
 rcases (by omega:c<r.1\/r.1<=c) with e|e
 . refine⟨(x.1,r.1-1),List.mem_flatMap.2 ⟨x,hx,?_⟩,h1,zo⟩
   grind
 refine⟨(r.2+1,x.2),List.mem_flatMap.2 ⟨x,hx,?_⟩,zo,h2⟩
 grind
theorem zbj {a:θ} {q:Int×Int} (h:q∈cutP a r):∃ x∈a,x.1<=q.1/\q.2<=x.2/\(q.1=x.1\/(q.1=r.2+1/\r.2<x.2))/\(q.2=x.2\/(q.2=r.1-1/\x.1<r.1))/\(x.1<=x.2->r.1<=r.2->q.1<=q.2/\(q.2<r.1\/r.2<q.1)):=by
 grind [cutP]
theorem zdU (h:cW c=true):cW (c+1)=true\/c+1∈cJ\/1114111<=c:=by
 grind [eW,xB]
theorem vH.cutP {a:θ} (h:vH a) (h1:r.1<=r.2) (CZ:cW r.1=true) (jm:cW r.2=true):vH (cutP a r):=by
 refine⟨λq hq=> ?_,λq hq q' hq'=> ?_,λq hq=> ?_,λq hq=> ?_⟩
 . obtain⟨x,hx,k1,k2,_,_,k5⟩:=zbj hq
   have:=h.ne x hx;omega
 . obtain⟨x,hx,k1,k2,k3,k4,k5⟩:=zbj hq
   obtain⟨x',hx',l1,l2,l3,l4,l5⟩:=zbj hq';have:=h.ne x hx;have:=h.ne x' hx'
   rcases h.sep x hx x' hx' with e|e|e
   all_goals grind
 . obtain⟨x,hx,_,_,k3,_,_⟩:=zbj hq
   rcases k3 with e|⟨e,h9⟩
   . rw[e];exact h.lo x hx
   rw[e]
   rcases zdU jm with h2|h2|h2
   . grind
   . grind
   have:=h.ne x hx;omega
 obtain⟨x,hx,_,_,_,k4,_⟩:=zbj hq
 rcases k4 with e|⟨e,_⟩
 . rw[e];exact h.hi x hx
 grind
def zb5 (l:θ):Prop:=∀ r∈l,r.1<=r.2/\cW r.1=true/\cW r.2=true
theorem zdJ:∀ (l a:θ),vH a->zb5 l->vH (l.foldl cutP a)/\∀ c,inR (l.foldl cutP a) c↔inR a c/\¬ inR l c
 | [],a,h,_=>⟨h,λc=>⟨λh=>⟨h,fun⟨r,hr,_⟩=>by cases hr⟩,λh=>h.1⟩⟩
 | r::l,a,h,hl=>by
  have hr:=hl r List.mem_cons_self;obtain⟨h1,h2⟩:=zdJ l (cutP a r) (h.cutP hr.1 hr.2.1 hr.2.2) (λq hq=>hl q (List.mem_cons_of_mem _ hq));refine⟨h1,λc=> ?_⟩;rw[List.foldl_cons,h2,inR_cut];constructor
  . rintro⟨⟨k1,k2⟩,k3⟩
    refine⟨k1,?_⟩;rintro⟨q,hq,h3⟩
    rcases List.mem_cons.1 hq with rfl|hq
    . omega
    exact k3 ⟨q,hq,h3⟩
  rintro⟨k1,k2⟩
  exact⟨⟨k1,λh3=>k2 ⟨r,List.mem_cons_self,h3⟩⟩,fun⟨q,hq,h3⟩=>k2 ⟨q,List.mem_cons_of_mem _ hq,h3⟩⟩
theorem zcP (hl:zb5 l):vH (jR l)/\∀ c,cW c=true->(inR (jR l) c↔¬ inR l c):=by
 have h0:vH [(0,55295),(57344,1114111)]:=by
  refine⟨λr hr=> ?_,λr hr q hq=> ?_,λr hr=> ?_,λr hr=> ?_⟩
  . grind
  . grind
  . simp at hr;rcases hr with rfl|rfl<;>decide
  simp at hr;rcases hr with rfl|rfl<;>decide
 obtain⟨h1,h2⟩:=zdJ l _ h0 hl;refine⟨h1,λc hc=> ?_⟩;unfold jR;rw[h2];constructor
 . simp
 intro h
 refine⟨?_,h⟩;rw[eW] at hc
 rcases hc with hc|hc
 . exact⟨(0,55295),zs,zo,zo⟩
 exact⟨(57344,1114111),zs,zo,zo⟩
theorem rest_in:∀ (l a:θ),(∀ q∈a,q.2<=55295\/57344<=q.1)->∀ q∈l.foldl cutP a,q.2<=55295\/57344<=q.1
 | [],a,h=>h
 | r::l,a,h=>by
  rw[List.foldl_cons];refine rest_in l _ λq hq=> ?_
  grind [zbj]
theorem zi3 (hl:zb5 l):∀ q∈jR l,cW q.1=true:=λq hq=>by
 have:=(zcP hl).1.ne q hq;have:=rest_in l [(0,55295),(57344,1114111)] (λq hq=>zg) q hq;rw[eW];omega
theorem rhex_any (b:Nat) (hb:b<256) (w:ω):Γ 165 #[.int .u8 b] w λe w'=>e=ρ (ι (match pQ b with|some h=>(h:Int)|none=> -1))/\w'=w:=by
 by_cases h1:48<=b
 . by_cases h2:b<=57
   . have e:pQ b=some (b-48):=by unfold pQ;rw[zP ⟨h1,h2⟩]
     rw[e];have z1:(48:Int)<=(b:Int):=zo
     have z2:(b:Int)<=57:=zo
     have z3:((b-48:Nat):Int)=(b:Int)-48:=zo
     simp only[z3];clear z3 e;go_in;go_wp2;go_ret;simp
   have z1:(48:Int)<=(b:Int):=zo
   have z2:¬ (b:Int)<=57:=zo
   by_cases h3:65<=b
   . have z3:(65:Int)<=(b:Int):=zo
     by_cases h4:b<=70
     . have e:pQ b=some (b-55):=by unfold pQ;rw[zN zo,zN zo,zP ⟨h3,h4⟩]
       rw[e];have z4:(b:Int)<=70:=zo
       have z5:¬ (97:Int)<=(b:Int):=zo
       have z6:((b-55:Nat):Int)=(b:Int)-65+10:=zo
       simp only[z6];clear z6 e;go_in;go_wp2;go_ret;simp
     have z4:¬ (b:Int)<=70:=zo
     by_cases h5:97<=b
     . have z5:(97:Int)<=(b:Int):=zo
       by_cases h6:b<=102
       . have e:pQ b=some (b-87):=by unfold pQ;rw[zN zo,zP ⟨h5,h6⟩]
         rw[e];have z6:(b:Int)<=102:=zo
         have z7:((b-87:Nat):Int)=(b:Int)-97+10:=zo
         simp only[z7];clear z7 e;go_in;go_wp2;go_ret;simp
       have e:pQ b=none:=by unfold pQ;rw[zN zo,zN zo,zN zo]
       rw[e];have z6:¬ (b:Int)<=102:=zo
       clear e;go_in;go_wp2;go_ret;simp
     have e:pQ b=none:=by unfold pQ;rw[zN zo,zN zo,zN zo]
     rw[e];exact zzB6
   have e:pQ b=none:=by unfold pQ;rw[zN zo,zN zo,zN zo]
   rw[e];have z3:¬ (65:Int)<=(b:Int):=zo
   exact zzB6
 have e:pQ b=none:=by unfold pQ;rw[zN zo,zN zo,zN zo]
 rw[e];have z1:¬ (48:Int)<=(b:Int):=zo
 have z3:¬ (65:Int)<=(b:Int):=zo
 exact zzB6
def OkR (s:η) (x y:Pr) (r:Except mP Nat):Prop:=
 match r with
 | .ok q=>y={x with aQ:=q}/\x.aQ<=q/\q<=s.size
 | .error e=>∃ q,x.aQ<=q/\q<=s.size/\y={x with aQ:=q,e:=e.1,wh:=e.2}
def CountO (B pb:Nat) (s:η) (x:Pr) (lv:Value) (w:ω) (e:Ending) (w':ω):Prop:=
 ∃ (v:Int) (q:Nat),e=ρ (ι v)/\PrO B pb s {x with aQ:=q} lv w w'/\x.aQ<=q/\q<=s.size/\((v= -1/\∀ k,∃ er,eV s x.aQ k=.error er/\er=(4,k))\/∃ n:Nat,v=(n:Int)/\n<100/\∀ k,eV s x.aQ k=.ok (n,q))
theorem count_any (B pb:Nat) (s:η) (x:Pr) (lv:Value) (w:ω) (h:gD B pb s x lv w):
 Γ 144 #[bH pb] w (CountO B pb s x lv w):=by
 have HP:=zh h;have hz:=h.sz;clear h;unfold bH;go_in;go_wp2;go_loopw [3,4] (λs3 s4 wr=>∃ i:Nat,s4=ι i/\s3=ι (valN s x.aQ i:Nat)/\i<=2/\(∀ j,j<i->dig s (x.aQ+j)=true)/\x.aQ+i<=s.size/\gD B pb s {x with aQ:=x.aQ+i} lv wr/\PK pb lv lv w wr) (λ_ s4 _=>2-(ϑ s4).toNat)
 case atStart=>exact⟨0,rfl,rfl,zo,λj hj=>zo,hz.2.1,HP.o,PK.refl _ _ _⟩
 case round=>
  obtain⟨i,rfl,rfl,hi,hd,th,hp,hk⟩:=hrel;obtain⟨c0,c1,_⟩:=hp.cells;dsimp only at c1;have Yw:=Λ hp hk hd;have hvl:valN s x.aQ i<=99:=by
   rcases (by omega:i=0\/i=1\/i=2) with rfl|rfl|rfl
   . exact (by decide:(0:Nat)<=99)
   . have h0:=hd 0 zo
     simp only[dig,Bool.and_eq_true,decide_eq_true_eq,Nat.add_zero] at h0;show bL s x.aQ-48<=99;omega
   have h0:=hd 0 zo
   have h1:=hd 1 zo;simp only[dig,Bool.and_eq_true,decide_eq_true_eq,Nat.add_zero] at h0 h1;show 10*(bL s x.aQ-48)+(bL s (x.aQ+1)-48)<=99;omega
  clear hp hk hd;obtain⟨q,hq⟩:=zE (x.aQ+i);rw[<-hq] at c1 th Yw;have HQ:=zh hq;clear hq;have:=eB s q;by_cases EA:dig s q=true
  . obtain⟨g1,g2,g3⟩:=zgs EA
    have:=zt q s.size
    have:(48:Int)<=(bL s q:Int):=zo
    have:(bL s q:Int)<=57:=zo
    have Vq:=fX s q g1;have YH:∀ j,j<i+1->dig s (x.aQ+j)=true:=λj hj=>by
     rcases zLg j i with h|h
     . exact Yw.o.2.2 j h
     obtain rfl:j=i:=by omega
     rw[<-HQ.o];exact EA
    have Th:=zh YH;clear YH EA;by_cases h2:i=2
    . have z2:(i:Int)=2:=zo
      subst h2;clear z2;go_wp2;go_quiet (fail);go_wp2;go_ret;refine⟨-1,q,rfl,⟨Yw.o.1.below (aK (zBr _ wr) _),Yw.o.2.1.trans (PK.of_below (aK (zBr _ wr) _))⟩,by have:=HQ.o;omega,th,.inl ⟨rfl,λk=>⟨_,zcA Th.o,rfl⟩⟩⟩
    have z2:((i:Int)==2)=false:=zx
    have:=mF i;have:=mF q;have DV:=zf9 s x.aQ i zo;rw[<-HQ.o] at DV;have WK:=zh DV;clear DV;generalize valN s x.aQ i=v at hvl WK ⊢;have:=lM (n:=10*(v:Int));have:IntKind.i64.wrap (10*(v:Int)+((bL s q:Int)-48))=10*(v:Int)+((bL s q:Int)-48):=zIn _ ⟨zo,zo⟩
    have Ht:=λw9 (hb:wr.u w9)=>(Yw.o.1.below hb).set 1 (ι ((q:Int)+1)) {x with aQ:=q+1} zs rfl ⟨zg,Yw.o.1.sz.2.2.1,Yw.o.1.sz.2.2.2⟩;have YF:=zh Ht;clear Ht;go_wp2;go_quiet (fail);have QR:wr.u (wr.drewN nq):=aK (zBr _ wr) _;have yf:=Yw.o.1.below QR;generalize wr.drewN nq=w2 at QR yf ⊢;have QO:=zh QR;obtain⟨d0,d1,_⟩:=yf.cells;dsimp only at d1;clear QR yf c0 c1;go_wp2;go_quiet (fail)
    have ke:wr.u (w2.drewN nq):=aK QO.o _;have yo:=Yw.o.1.below ke;generalize w2.drewN nq=w3 at ke yo ⊢;have Kl:=zh ke;obtain⟨d0',d1',_⟩:=yo.cells;dsimp only at d1';have:=bN w3 pb 1 _ _ yo.blk;clear ke yo d0 d1;go_wp2;go_roundw
    case rel=>exact⟨i+1,by go_num,by rw[WK.o];go_num,zo,Th.o,by have:=HQ.o;omega,by rw[show x.aQ+(i+1)=q+1 by have:=HQ.o;omega];exact YF.o _ Kl.o,Yw.o.2.1.trans ((PK.of_below Kl.o).trans (PK.set 1 _))⟩
    case measure=>exact zY
  have nw:dig s q=false:=by simpa using EA
  have Hh:∀ k,eV s x.aQ k=if i=0 then .error (4,k) else .ok (valN s x.aQ i,x.aQ+i):=λk=>uF hi Yw.o.2.2 (by rw[<-HQ.o];exact nw)
  have Hl:=zh Hh;have XS:decide (q<s.size)=false\/((q:Int)<(s.size:Int)/\(decide ((48:Int)<=(bL s q:Int))=false\/((48:Int)<=(bL s q:Int)/\decide ((bL s q:Int)<=57)=false))):=by
   unfold dig at nw;simp only[Bool.and_eq_false_iff,decide_eq_false_iff_not] at nw ⊢;omega
  clear Hh nw EA;by_cases h0:i=0
  . subst h0
    rcases XS with y|⟨y,y48|⟨y48,y57⟩⟩
    all_goals
     try have Vq:=fX s q zo
     go_wp2;go_quiet (fail);go_wp2;go_ret;exact⟨-1,q,rfl,⟨Yw.o.1.below (aK (zBr _ wr) _),Yw.o.2.1.trans (PK.of_below (aK (zBr _ wr) _))⟩,by have:=HQ.o;omega,th,.inl ⟨rfl,λk=>⟨_,Hl.o k,rfl⟩⟩⟩
  have:((i:Int)==0)=false:=zx
  obtain⟨v,hv⟩:=zE (valN s x.aQ i);rw[<-hv] at hvl ⊢;have HV:=zh hv;clear hv
  rcases XS with y|⟨y,y48|⟨y48,y57⟩⟩
  all_goals
   try have Vq:=fX s q zo
   go_wp2;go_quiet (fail);go_wp2;go_ret;exact⟨v,q,rfl,⟨Yw.o.1.below (aK (zBr _ wr) _),Yw.o.2.1.trans (PK.of_below (aK (zBr _ wr) _))⟩,by have:=HQ.o;omega,th,.inr ⟨v,rfl,zo,λk=>by rw[Hl.o k,zN h0,HV.o,HQ.o]⟩⟩
def oS (s:η) (k i q v:Nat):Except mP (Int×Nat):=
 match dR s k (8-i) q v i with
 | .error e=>.error e
 | .ok (v,d,q)=>if d≠0/\uZ s q 125=true/\((v<55296)\/(57343<v/\v<=1114111)) then .ok (v,q+1) else .error (2,k)
theorem zgn (h:uZ s p 123=true):eY s p k=oS s k 0 (p+1) 0:=by
 grind [eY,oS]
theorem ziq (hi:i<=7) (h:¬ q<s.size):oS s k i q v=.error (2,k):=by
 unfold oS;obtain⟨f,hf⟩:∃ f,8-i=f+1:=⟨7-i,zo⟩
 grind [dR,xU]
theorem coded_hex {x:Nat} (hi:i<6) (h:q<s.size) (hx:pQ (bL s q)=some x):oS s k i q v=oS s k (i+1) (q+1) (16*v+x):=by
 have:bL s q≠125:=λe=>by grind [pQ]
 have:8-i=(8-(i+1))+1:=zo
 grind [dR,oS]
theorem zgm {x:Nat} (h:q<s.size) (hx:pQ (bL s q)=some x):oS s k 6 q v=.error (2,k):=by
 grind [pQ,dR,oS]
theorem zir (hi:i<=7) (h:q<s.size) (hx:pQ (bL s q)=none):
 oS s k i q v=if bL s q=125/\i≠0/\((v<55296)\/(57343<v/\v<=1114111)) then .ok (v,q+1) else .error (2,k):=by
 unfold oS;obtain⟨f,hf⟩:∃ f,8-i=f+1:=⟨7-i,zo⟩
 grind [dR,uZ]
def ScalO (B pb:Nat) (s:η) (x:Pr) (res:Except mP (Int×Nat)) (lv:Value) (w:ω) (e:Ending) (w':ω):Prop:=
 ∃ (v:Int) (y:Pr),e=ρ (ι v)/\PrO B pb s y lv w w'/\ -1<=v/\v<=1114111/\OkR s x y (res.map (·.2))/\∀ c q,res=.ok (c,q)->v=c
theorem ziZ (B pb:Nat) (s:η) (x:Pr) (lv:Value) (w:ω) (h:gD B pb s x lv w) (he:x.e=0) (k:Nat) (hk:k<=60):
 Γ 157 #[bH pb,ι k] w (ScalO B pb s x (eY s x.aQ k) lv w):=by
 have HE:=zh he;have HP:=zh h;have hz:=h.sz;obtain⟨c0,c1,_⟩:=h.cells;have EC:∀ (q:Nat) (w1:ω),x.aQ<=q->q<=s.size->gD B pb s {x with aQ:=q} lv w1->PK pb lv lv w w1->eY s x.aQ k=.error (2,k)->Γ 32 #[bH pb,ι (2:Nat),ι k] w1 λe' w'=>e'=ρ (ϕ #[])/\ScalO B pb s x (eY s x.aQ k) lv w (ρ (ι 0)) w':=by
  intro q w1 h1 h2 h3 h4 h5;refine (iQ B pb s {x with aQ:=q} lv w1 h3 2 k zo hk).mono ?_;rintro e' w' ⟨rfl,JE,jr⟩;have hy:fK {x with aQ:=q} 2 k={x with aQ:=q,e:=2,wh:=k}:=by unfold fK;rw[zP HE.o]
  rw[hy] at JE;refine⟨rfl,0,_,rfl,⟨JE,h4.trans jr⟩,zd,zd,?_,λc q' hh=> ?_⟩
  . rw[h5]
    exact⟨q,h1,h2,rfl⟩
  grind
 have D4:=zh EC;clear h he EC;by_cases hb:uZ s x.aQ 123=true
 . obtain⟨g1,g2⟩:=xU hb
   have Hl:=zh (zgn (k:=k) hb);have Vq:=fX s x.aQ g1;have:=zt x.aQ s.size
   have zb:(bL s x.aQ:Int)=123:=zo
   have YJ:=mF x.aQ;have Ht:=λw9 (hb:w.u w9)=>(HP.o.below hb).set 1 (ι ((x.aQ:Int)+1)) {x with aQ:=x.aQ+1} zs rfl ⟨zg,HP.o.sz.2.2.1,HP.o.sz.2.2.2⟩;have YF:=zh Ht;clear Ht hb;rw[zb] at Vq;clear zb;unfold bH;go_in;go_upto_region 3 with fail
   go_quiet (fail);have QR:w.u (w.drewN nq):=aK (zBr _ w) _;have Qd:=HP.o.below QR;generalize w.drewN nq=w1 at QR Qd ⊢;have QO:=zh QR;obtain⟨d0,d1,_⟩:=Qd.cells;have f2:=bN w1 pb 1 _ _ Qd.blk;clear QR Qd c0 c1;go_upto_if 30 with fail
   go_cut [] (λwx=>∃ q,x.aQ<=q/\q<=s.size/\gD B pb s {x with aQ:=q} lv wx/\PK pb lv lv w wx/\eY s x.aQ k=.error (2,k))
   case first=>
    go_wp2;go_loopw [5,6] (λs5 s6 wr=>∃ (i v:Nat),s6=ι i/\s5=ι v/\i<=7/\v<16^i/\x.aQ+1+i<=s.size/\gD B pb s {x with aQ:=x.aQ+1+i} lv wr/\PK pb lv lv w wr/\((i<=6/\eY s x.aQ k=oS s k i (x.aQ+1+i) v)\/(i=7/\eY s x.aQ k=.error (2,k)))) (λ_ s6 _=>7-(ϑ s6).toNat)
    case atStart=>exact⟨0,0,rfl,rfl,zo,zd,zo,YF.o _ QO.o,(PK.of_below QO.o).trans (PK.set 1 _),.inl ⟨zo,Hl.o⟩⟩
    case round=>
     obtain⟨i,v,rfl,rfl,hi,hv,th,hp,Yr,hD⟩:=hrel;obtain⟨c0,c1,_⟩:=hp.cells;dsimp only at c1;have:v<268435456:=zLd hv (Nat.pow_le_pow_right zd hi);obtain⟨q,hq⟩:=zE (x.aQ+1+i);rw[<-hq] at c1 th hp hD;have Yw:=Θ hp Yr;have HQ:=zh hq;have HD:=zh hD;have HV:=zh hv
     have Ht:=λw9 (hb:wr.u w9) (h9:q+1<=s.size)=>(Yw.o.1.below hb).set 1 (ι ((q:Int)+1)) {x with aQ:=q+1} zs rfl ⟨h9,Yw.o.1.sz.2.2.1,Yw.o.1.sz.2.2.2⟩;have LX:=zh Ht;clear Ht hq hp Yr hD hv f2 d0 d1 Vq;have qh:=eB s q;by_cases VR:q<s.size
     . have:=zt q s.size
       have IZ:=fX s q VR;have:=mF q;by_cases h7:i=7
       . have Qf:eY s x.aQ k=.error (2,k):=by
          rcases HD.o with h|h
          . omega
          exact h.2
         have Vx:=zh Qf;have y2:decide ((i:Int)<7)=false:=zx
         have y3:=zp i
         have XS:((bL s q:Int)==125)=false\/(bL s q:Int)=125:=by
          by_cases e:bL s q=125
          . omega
          exact .inl zx
         clear Qf
         rcases XS with y4|y4
         all_goals
          try rw[y4] at IZ
          go_wp2;go_quiet (fail);obtain⟨wq,YJ⟩:=zE (wr.drewN nq);have VJ:wr.u wq:=by rw[YJ];exact aK (zBr _ wr) _
          rw[<-YJ];have VQ:=Yw.o.1.below VJ;have ud:=zh VJ;obtain⟨e0,e1,_⟩:=VQ.cells;clear YJ VJ VQ;go_wp2;go_quiet (fail);go_wp2;go_meet;exact⟨q,by have:=HQ.o;omega,th,Yw.o.1.below (aK ud.o _),Yw.o.2.trans (PK.of_below (aK ud.o _)),Vx.o⟩
       have y2:(i:Int)<7:=zo
       have oz:i<=6/\eY s x.aQ k=oS s k i q v:=by
        rcases HD.o with h|h
        . exact h
        omega
       have PZ:=λw9=>rhex_any (bL s q) qh w9;cases hx:pQ (bL s q) with
       | none=>
        rw[hx] at PZ;dsimp only at PZ;have Hh:=zir (k:=k) (v:=v) (by omega:i<=7) VR hx;rw[<-oz.2] at Hh;have XZ:=zh Hh;have Fq:=zh PZ;clear Hh PZ hx oz;go_wp2;go_quiet (fail);obtain⟨wq,YJ⟩:=zE (wr.drewN nq);have VJ:wr.u wq:=by rw[YJ];exact aK (zBr _ wr) _
        rw[<-YJ];have VQ:=Yw.o.1.below VJ;have ud:=zh VJ;obtain⟨e0,e1,_⟩:=VQ.cells;clear YJ VJ VQ;go_wp2;go_quiet ((go_at_call 165;exact Calls.quiet_of_same (Fq.o _)));obtain⟨w8,YJ⟩:=zE (wq.drewN nq);have VJ:wr.u w8:=by rw[YJ];exact aK ud.o _
        rw[<-YJ];have VQ:=Yw.o.1.below VJ;have Pt:=zh VJ;obtain⟨g0,g1,_⟩:=VQ.cells;have fg:=bN w8 pb 1 _ _ VQ.blk;clear YJ VJ VQ;go_wp2;by_cases Ym:bL s q=125
        . have y4:(bL s q:Int)=125:=zo
          rw[y4] at IZ;by_cases h0:i=0
          . have y3:decide ((0:Int)<(i:Int))=false:=zx
            have y3':decide (0<i)=false:=zx
            have Vx:=zh (XZ.o.trans (zN (λh=>h.2.1 h0)));exact zzBw
          have y3:decide ((0:Int)<(i:Int))=true:=zx
          have y3':=zp i
          have:decide (0<i)=true:=zx
          have Yd:=λw9=>yG (v:Int) zo w9;go_quiet (fail);obtain⟨w7,YJ⟩:=zE (w8.drewN nq);have VJ:wr.u w7:=by rw[YJ];exact aK Pt.o _
          rw[<-YJ];have VQ:=Yw.o.1.below VJ;have BL:=zh VJ;obtain⟨m0,m1,_⟩:=VQ.cells;have:=bN w7 pb 1 _ _ VQ.blk;clear YJ VJ VQ;cases AM:gZ (v:Int) with
          | false=>
           rw[AM] at Yd;have Vk:=zh Yd;have Vx:=zh (XZ.o.trans (zN (λh=>by
            have h9:=h.2.2;simp only[gZ,decide_eq_false_iff_not] at AM;omega)))
           clear Yd AM;go_wp2_with (first|(go_at_call 93;refine (Vk.o _).mono ?_;rintro e9 w9 ⟨rfl,rfl⟩));go_meet;exact⟨q+1,by have:=HQ.o;omega,VR,LX.o _ BL.o VR,Yw.o.2.trans ((PK.of_below BL.o).trans (PK.set 1 _)),Vx.o⟩
          | true=>
           rw[AM] at Yd;have Vk:=zh Yd;have hvv:(v<55296)\/(57343<v/\v<=1114111):=by
            simp only[gZ,decide_eq_true_eq] at AM;omega
           have QA:=zh (XZ.o.trans (zP ⟨Ym,h0,hvv⟩));clear Yd AM;go_wp2_with (first|(go_at_call 93;refine (Vk.o _).mono ?_;rintro e9 w9 ⟨rfl,rfl⟩));go_ret;refine⟨v,_,rfl,⟨LX.o _ BL.o VR,Yw.o.2.trans ((PK.of_below BL.o).trans (PK.set 1 _))⟩,zo,zo,?_,λc q' hh=> ?_⟩
           . rw[QA.o]
             exact⟨rfl,by show x.aQ<=q+1;have:=HQ.o;omega,VR⟩
           rw[QA.o] at hh
           cases hh;rfl
        . have y4:((bL s q:Int)==125)=false:=zx
          have Vx:=zh (XZ.o.trans (zN (λh=>Ym h.1)));exact zzBw
       | some hd=>
        rw[hx] at PZ;dsimp only at PZ;have:hd<=15:=by
         unfold pQ at hx;split at hx
         . cases hx;omega
         split at hx
         . cases hx;omega
         split at hx
         . cases hx;omega
         cases hx
        have P6:((i+1<=6/\eY s x.aQ k=oS s k (i+1) (q+1) (16*v+hd))\/(i+1=7/\eY s x.aQ k=.error (2,k))):=by
         rcases (by omega:i<6\/i=6) with h|rfl
         . exact .inl ⟨zo,oz.2.trans (coded_hex h VR hx)⟩
         exact .inr ⟨rfl,oz.2.trans (zgm VR hx)⟩
        have hvn:16*v+hd<16^(i+1):=by have:=HV.o;rw[Nat.pow_succ];omega
        have Qo:=Θ P6 hvn;have Fq:=zh PZ;have:=lM (n:=16*(v:Int));have:=lM (n:=16*(v:Int)+(hd:Int));have:=mF i;clear P6 hvn PZ hx oz;go_wp2;go_quiet (fail);obtain⟨wq,YJ⟩:=zE (wr.drewN nq);have VJ:wr.u wq:=by rw[YJ];exact aK (zBr _ wr) _
        rw[<-YJ];have VQ:=Yw.o.1.below VJ;have ud:=zh VJ;obtain⟨e0,e1,_⟩:=VQ.cells;clear YJ VJ VQ;go_wp2;go_quiet ((go_at_call 165;exact Calls.quiet_of_same (Fq.o _)));obtain⟨w8,YJ⟩:=zE (wq.drewN nq);have VJ:wr.u w8:=by rw[YJ];exact aK ud.o _
        rw[<-YJ];have VQ:=Yw.o.1.below VJ;have Pt:=zh VJ;obtain⟨g0,g1,_⟩:=VQ.cells;have fg:=bN w8 pb 1 _ _ VQ.blk;clear YJ VJ VQ;go_wp2;go_roundw
        case rel=>exact⟨i+1,16*v+hd,by go_num,by go_num,zo,Qo.o.2,by have:=HQ.o;omega,by rw[show x.aQ+1+(i+1)=q+1 by have:=HQ.o;omega];exact LX.o _ Pt.o VR,Yw.o.2.trans ((PK.of_below Pt.o).trans (PK.set 1 _)),by rw[show x.aQ+1+(i+1)=q+1 by have:=HQ.o;omega];exact Qo.o.1⟩
        case measure=>exact zY
     . have Qf:eY s x.aQ k=.error (2,k):=by
        rcases HD.o with h|h
        . rw[h.2,ziq hi VR]
        exact h.2
       have Vx:=zh Qf;have y1:decide (q<s.size)=false:=zx
       clear Qf;go_wp2;go_quiet (fail);obtain⟨wq,YJ⟩:=zE (wr.drewN nq);have VJ:wr.u wq:=by rw[YJ];exact aK (zBr _ wr) _
       rw[<-YJ];have VQ:=Yw.o.1.below VJ;have ud:=zh VJ;obtain⟨e0,e1,_⟩:=VQ.cells;clear YJ VJ VQ;go_wp2;go_quiet (fail);go_wp2;go_meet;exact⟨q,zo,th,Yw.o.1.below (aK ud.o _),Yw.o.2.trans (PK.of_below (aK ud.o _)),Vx.o⟩
   case rest=>
    obtain⟨q,h1,h2,h3,h4,h5⟩:=hcut;have hf:=D4.o q wc h1 h2 h3 h4 h5;unfold bH at hf;have HF:=zh hf;clear hf h1 h2 h3 h4 h5;go_wp2_with (first|(go_at_call 32;refine HF.o.mono ?_;rintro e' w' ⟨rfl,ho⟩;have H1:=zh ho;clear ho));go_ret;exact H1.o
 have Qy:uZ s x.aQ 123=false:=by simpa using hb
 have Qf:eY s x.aQ k=.error (2,k):=by unfold eY;rw[zN hb]
 have hf:=λw1 (YK:w.u w1)=>D4.o x.aQ w1 bR hz.2.1 (HP.o.below YK) (PK.of_below YK) Qf;unfold bH at hf;have HF:=zh hf;have XS:decide (x.aQ<s.size)=false\/((x.aQ:Int)<(s.size:Int)/\((bL s x.aQ:Int)==123)=false):=by
  rcases zLg x.aQ s.size with h|h
  . grind [isB_no]
  grind
 clear hb Qy Qf hf;unfold bH
 rcases XS with y|⟨y,y1⟩
 all_goals
  try have Vq:=fX s x.aQ zo
  go_in;go_upto_region 3 with fail
  go_quiet (fail);go_wp2_with (first|(go_at_call 32;refine (HF.o _ (by grind [aK,zBr])).mono ?_;rintro e' w' ⟨rfl,ho⟩;have H1:=zh ho;clear ho));go_ret;exact H1.o
theorem gA (s:η) (p:Nat):cQ s p=if (bT s p).1<0/\0<(bT s p).2 then .error (2,p) else .ok (bT s p).1:=by
 grind [cQ,bT]
theorem uG (h:¬ p<s.size):bT s p=(-1,0):=by unfold bT;grind
theorem zgM (h:p<s.size) (hb:bL s p<128):bT s p=((bL s p:Int),1):=by
 grind [bT,lU,Lib.decodeN]
theorem zeA (h:p<s.size) (hb:¬ bL s p<128):((bT s p).1= -1\/128<=(bT s p).1)/\1<=(bT s p).2:=by
 unfold bT;rw[zP h];by_cases hq:(δ s p).1=65533/\(δ s p).2=1
 . grind
 rw[zN hq]
 obtain⟨c,k,hx,hh⟩:=iL s p h hq
 grind [eB,lU,pN,oU,oV,oW]
theorem zeS (hp:p<=s.size):qW s p=if (bT s p).1<0/\0<(bT s p).2 then .error (2,p) else .ok ((bT s p).1,p+(bT s p).2):=by
 grind [qW,gA,bT]
theorem zbv (h:bT s p=(92,1)):cD s p=if p+1<s.size then
 (if bL s (p+1)=110 then .ok (10,p+1+1) else if bL s (p+1)=116 then .ok (9,p+1+1) else if bL s (p+1)=114 then .ok (13,p+1+1) else if bL s (p+1)=117 then eY s (p+1+1) p else if escs.contains (bL s (p+1)) then .ok (bL s (p+1),p+1+1) else .error (2,p)) else .error (2,p):=by
 grind [uG,cD,zeS]
theorem yH (hp:p<=s.size) (h1:¬ ((bT s p).1<0/\0<(bT s p).2)) (h2:(bT s p).1≠92):cD s p=.ok ((bT s p).1,p+(bT s p).2):=by
 grind [cD,zeS]
theorem zdM (hp:p<=s.size) (h1:(bT s p).1<0/\0<(bT s p).2):cD s p=.error (2,p):=by
 grind [cD,zeS]
theorem one_92 (h:(bT s p).1=92):(bT s p).2=1/\p<s.size:=by
 grind [zgM,zeA,uG]
theorem OkR.from {y:Pr} {r:Except mP Nat} (h:OkR s {x with aQ:=a} y r) (ha:x.aQ<=a):OkR s x y r:=by
 cases r with
 | ok q=>exact⟨h.1,zT ha h.2.1,h.2.2⟩
 | error e=>
  obtain⟨q,h1,h2,h3⟩:=h;exact⟨q,zT ha h1,h2,h3⟩
theorem vV (h:¬ ((bT s x.aQ).1<0/\0<(bT s x.aQ).2)):eI s x=x:=by unfold eI;grind
theorem zaZ (he:x.e=0) (h:(bT s x.aQ).1<0/\0<(bT s x.aQ).2):eI s x={x with e:=2,wh:=x.aQ}:=by grind [eI,fK]
theorem zgt (h:escs.contains b=true):b=40\/b=41\/b=91\/b=93\/b=123\/b=125\/b=124\/b=42\/b=43\/b=63\/b=46\/b=92\/b=45\/b=94:=by
 simpa[escs] using h
theorem escs_out (h:escs.contains b=false):b≠40/\b≠41/\b≠91/\b≠93/\b≠123/\b≠125/\b≠124/\b≠42/\b≠43/\b≠63/\b≠46/\b≠92/\b≠45/\b≠94:=by
 simpa[escs] using h
theorem zav (B pb:Nat) (s:η) (x:Pr) (lv:Value) (w:ω) (h:gD B pb s x lv w) (he:x.e=0):
 Γ 143 #[bH pb] w (ScalO B pb s x (cD s x.aQ) lv w):=by
 have HE:=zh he;have hz:=h.sz;have qx:=iR B pb s x lv w h;obtain⟨c0,c1,_⟩:=h.cells;have qo:=nC s x.aQ hz.2.1;clear h;unfold bH at qx ⊢;by_cases Qt:(bT s x.aQ).1<0/\0<(bT s x.aQ).2
 . have rz:=zdM hz.2.1 Qt
   rw[zaZ he Qt] at qx;have LW:=zh rz;generalize bT s x.aQ=cn at qx qo;obtain⟨c,n⟩:=cn;dsimp only at qx qo;have Qx:=zh qx;clear qx rz Qt he;go_in;go_upto_region 3 with (go_at_call 73;refine Qx.o.mono ?_;rintro e' w1 ⟨rfl,ho⟩;have H1:=zh ho;clear ho)
   obtain⟨_,_,c2,_⟩:=H1.o.1.cells;dsimp only at c2;go_wp2;go_ret;refine⟨0,_,rfl,H1.o,zd,zd,?_,λc q hh=> ?_⟩
   . rw[LW.o]
     exact⟨x.aQ,bR,hz.2.1,rfl⟩
   rw[LW.o] at hh;cases hh
 rw[vV Qt] at qx;by_cases Al:(bT s x.aQ).1=92
 . obtain⟨QR,Qq⟩:=one_92 Al
   have XI:bT s x.aQ=(92,1):=Prod.ext Al QR;have HES:=zh (zbv XI);rw[XI] at qx;have Qx:=zh qx;clear qx XI qo Qt he QR Al;have YJ:=mF x.aQ;obtain⟨q,hq⟩:=zE (x.aQ+1);rw[<-hq] at HES;have ho:=λw'=>zcD (ε s q s.size) w';rw[zbY s q zo] at ho;have Vb:=nC s q zo;obtain⟨⟨d,k⟩,Dg⟩:∃ dk,dk=bT s q:=⟨_,rfl⟩;rw[<-Dg] at ho Vb;dsimp only at ho Vb;have HO:=zh ho
   have wH:=zh Dg;have hqz:(x.aQ:Int)+1=(q:Int):=zo
   rw[hqz] at YJ;have:=lM (n:=(q:Int)+(k:Int));have:=zu q s.size
   have:=zh hq;clear ho Dg hq;go_in;go_upto_region 3 with (go_at_call 73;refine Qx.o.mono ?_;rintro e' w1 ⟨rfl,ho⟩;have H1:=zh ho;clear ho)
   obtain⟨d0,d1,c2,_⟩:=H1.o.1.cells;have f2:=bN w1 pb 1 _ _ H1.o.1.blk;rw[HE.o] at c2;have Ht:=H1.o.1.set 1 (ι (q:Int)) {x with aQ:=q} zs rfl ⟨zg,H1.o.1.sz.2.2.1,H1.o.1.sz.2.2.2⟩;have On:=H1.o.2.trans (PK.set (pb:=pb) (v:=lv) 1 (w:=w1) (ι (q:Int)));have YF:=Θ Ht On;clear Ht On c0 c1;go_upto_region 8 with fail
   generalize w1.setCell (pb.p 1) (ι (q:Int))=w2 at YF ⊢;obtain⟨e0,e1,e2,_⟩:=YF.o.1.cells;dsimp only at e1 e2;clear d0 d1 c2 f2;go_quiet ((go_at_call 50;exact Calls.quiet_of_same (HO.o _)));have Hu:w2.u (w2.drewN nq):=aK (zBr _ w2) _;have yo:=YF.o.1.below Hu;have Pg:=YF.o.2.trans (PK.of_below Hu);generalize w2.drewN nq=w3 at yo Pg ⊢;have f3:=bN w3 pb 1 _ _ yo.blk;obtain⟨g0,g1,_⟩:=yo.cells;dsimp only at g1
   have Ht:=yo.set 1 (ι ((q:Int)+(k:Int))) {x with aQ:=q+k} zs rfl ⟨zg,yo.sz.2.2.1,yo.sz.2.2.2⟩;have H5:=Θ Ht (Pg.trans (PK.set (pb:=pb) (v:=lv) 1 (w:=w3) (ι ((q:Int)+(k:Int)))));clear Hu yo Pg Ht e0 e1 e2
   go_upto_block 0 with fail
   generalize w3.setCell (pb.p 1) (ι ((q:Int)+(k:Int)))=w5 at H5 ⊢;clear g0 g1 f3;have Yi:cD s x.aQ=.error (2,x.aQ)->Γ 32 #[bH pb,ι (2:Nat),ι x.aQ] w5 λe' w'=>e'=ρ (ϕ #[])/\ScalO B pb s x (cD s x.aQ) lv w (ρ (ι 0)) w':=by
    intro Qf;refine (iQ B pb s {x with aQ:=q+k} lv w5 H5.o.1 2 x.aQ zo zo).mono ?_;rintro e' w' ⟨rfl,JE,jr⟩;have hy:fK {x with aQ:=q+k} 2 x.aQ={x with aQ:=q+k,e:=2,wh:=x.aQ}:=by unfold fK;rw[zP HE.o]
    rw[hy] at JE;refine⟨rfl,0,_,rfl,⟨JE,H5.o.2.trans jr⟩,zd,zd,?_,λc q' hh=> ?_⟩
    . rw[Qf]
      exact⟨q+k,zo,zo,rfl⟩
    grind
   unfold bH at Yi;have Tj:=zh Yi;clear Yi;have last:(cD s x.aQ=.error (2,x.aQ)/\d≠110/\d≠116/\d≠114/\d≠117/\(d≠40/\d≠41/\d≠91/\d≠93/\d≠123/\d≠125/\d≠124/\d≠42/\d≠43/\d≠63/\d≠46/\d≠92/\d≠45/\d≠94))\/
    (k=1/\q+1<=s.size/\((d=110/\cD s x.aQ=.ok (10,q+1))\/(d=116/\cD s x.aQ=.ok (9,q+1))\/(d=114/\cD s x.aQ=.ok (13,q+1))\/(d=117/\cD s x.aQ=eY s (q+1) x.aQ)\/(escs.contains d.toNat=true/\0<=d/\cD s x.aQ=.ok (d,q+1)))):=by
    have Bo:=HES.o;by_cases VR:q<s.size
    . rw[zP VR] at Bo
      by_cases hb:bL s q<128
      . have Dg:=wH.o
        rw[zgM VR hb] at Dg;obtain⟨rfl,rfl⟩:=Prod.mk.inj Dg;by_cases b1:bL s q=110
        . grind
        rw[zN b1] at Bo;by_cases b2:bL s q=116
        . grind
        rw[zN b2] at Bo;by_cases b3:bL s q=114
        . grind
        rw[zN b3] at Bo;by_cases b4:bL s q=117
        . grind
        rw[zN b4] at Bo;cases hc:escs.contains (bL s q) with
        | true=>grind
        | false=>
         rw[hc,zN zd] at Bo;have:=escs_out hc;exact .inl ⟨Bo,zo,zo,zo,zo,zo⟩
      have hh:=zeA VR hb
      rw[<-wH.o] at hh;dsimp only at hh;rw[zN zo,zN zo,zN zo,zN zo,zN (λhc=>by have:=zgt hc;omega)] at Bo;exact .inl ⟨Bo,zo,zo,zo,zo,zo⟩
    rw[zN VR] at Bo
    have Dg:=wH.o;rw[uG VR] at Dg;simp_all
   rcases last with⟨Qf,n1,n2,n3,n4,m⟩|⟨rfl,hq1,Xj⟩
   . have HF:=zh (Tj.o Qf)
     obtain⟨m1,m2,m3,m4,m5,m6,m7,m8,m9,m10,m11,m12,m13,m14⟩:=m;have:(d==110)=false:=by simp[n1]
     have:(d==116)=false:=by simp[n2]
     have:(d==114)=false:=by simp[n3]
     have:(d==117)=false:=by simp[n4]
     have b1:(d==40)=false:=by simp[m1]
     have b2:(d==41)=false:=by simp[m2]
     have b3:(d==91)=false:=by simp[m3]
     have b4:(d==93)=false:=by simp[m4]
     have:(d==123)=false:=by simp[m5]
     have:(d==125)=false:=by simp[m6]
     have:(d==124)=false:=by simp[m7]
     have:(d==42)=false:=by simp[m8]
     have:(d==43)=false:=by simp[m9]
     have:(d==63)=false:=by simp[m10]
     have:(d==46)=false:=by simp[m11]
     have:(d==92)=false:=by simp[m12]
     have:(d==45)=false:=by simp[m13]
     have:(d==94)=false:=by simp[m14]
     clear Qf n1 n2 n3 n4 m1 m2 m3 m4 m5 m6 m7 m8 m9 m10 m11 m12 m13 m14;go_wp2_with (first|(go_at_call 32;refine HF.o.mono ?_;rintro e' w' ⟨rfl,ho⟩;have H9:=zh ho;clear ho));go_ret;exact H9.o
   rcases Xj with⟨rfl,hr⟩|⟨rfl,hr⟩|⟨rfl,hr⟩|⟨rfl,hr⟩|⟨hc,hd0,hr⟩
   . have HR:=zh hr
     clear hr;go_wp2;go_ret;refine⟨10,_,rfl,H5.o,zd,zd,?_,λc' q' hh=> ?_⟩
     . exact zzDc
     rw[HR.o] at hh
     grind
   . have HR:=zh hr
     clear hr;go_wp2;go_ret;refine⟨9,_,rfl,H5.o,zd,zd,?_,λc' q' hh=> ?_⟩
     . exact zzDc
     rw[HR.o] at hh
     grind
   . have HR:=zh hr
     clear hr;go_wp2;go_ret;refine⟨13,_,rfl,H5.o,zd,zd,?_,λc' q' hh=> ?_⟩
     . exact zzDc
     rw[HR.o] at hh
     grind
   . have MY:=ziZ B pb s {x with aQ:=q+1} lv w5 H5.o.1 HE.o x.aQ zo
     dsimp only at MY;rw[<-hr] at MY;unfold bH at MY;have HCO:=zh MY;clear MY hr;go_wp2_with (first|(go_at_call 157;refine HCO.o.mono ?_;rintro e' w' ⟨v,y,rfl,JE,CZ,jm,jr,Nc⟩;have H9:=Ψ JE CZ jm (zAi jr Nc);clear JE CZ jm jr Nc));go_ret;exact⟨v,y,rfl,⟨H9.o.1.1,H5.o.2.trans H9.o.1.2⟩,H9.o.2.1,H9.o.2.2.1,H9.o.2.2.2.1.from zo,H9.o.2.2.2.2⟩
   have HR:=zh hr
   have Z6:=zgt hc;clear hr hc;have Z3:d=40\/d=41\/d=91\/d=93\/d=123\/d=125\/d=124\/d=42\/d=43\/d=63\/d=46\/d=92\/d=45\/d=94:=zo
   clear Z6
   rcases Z3 with rfl|rfl|rfl|rfl|rfl|rfl|rfl|rfl|rfl|rfl|rfl|rfl|rfl|rfl
   all_goals
    go_wp2;go_ret;refine⟨_,_,rfl,H5.o,zd,zd,?_,λc' q' hh=> ?_⟩
    . exact zzDc
    rw[HR.o] at hh
    grind
 have JF:=yH hz.2.1 Qt Al
 generalize bT s x.aQ=cn at qx qo JF Al;obtain⟨c,n⟩:=cn;dsimp only at qx qo JF Al;have Qx:=zh qx;have FT:=zh JF;have:(c==92)=false:=by simp[Al]
 have YJ:=lM (n:=(x.aQ:Int)+(n:Int));clear qx JF Qt Al he;go_in;go_upto_region 3 with (go_at_call 73;refine Qx.o.mono ?_;rintro e' w1 ⟨rfl,ho⟩;have H1:=zh ho;clear ho)
 obtain⟨_,d1,c2,_⟩:=H1.o.1.cells;have f2:=bN w1 pb 1 _ _ H1.o.1.blk;rw[HE.o] at c2;have Ht:=H1.o.1.set 1 (ι ((x.aQ:Int)+(n:Int))) {x with aQ:=x.aQ+n} zs rfl ⟨zg,H1.o.1.sz.2.2.1,H1.o.1.sz.2.2.2⟩;have YF:=zh Ht;clear Ht c0 c1;go_wp2;go_ret;refine⟨c,_,rfl,⟨YF.o,H1.o.2.trans (PK.set 1 _)⟩,zo,zo,?_,λc' q hh=> ?_⟩
 . rw[FT.o]
   exact⟨rfl,zs,zg⟩
 rw[FT.o] at hh
 grind
structure WInv (l:θ) (c:Int) (O:θ):Prop where
 c0:0<=c/\c<=1114112
 ne:∀ r∈O,0<=r.1/\r.1<=r.2/\r.2<c
 sep:∀ r∈O,∀ q∈O,r=q\/r.2+1<q.1\/q.2+1<r.1
 last:∀ r∈O,r.2+1<c\/(r.2+1=c/\(inR l c\/1114111<c))
 lo:∀ r∈O,cW r.1=true\/r.1∈cJ
 hi:∀ r∈O,cW (r.2+1)=true\/r.2+1∈cJ\/1114111<=r.2
 mem:∀ z,cW z=true->z<c->(inR O z↔¬ inR l z)
 cv:cW c=true\/c∈cJ\/1114111<c
 len:(I O:Int)<=c
 live:∀ r∈O,∃ z,cW z=true/\r.1<=z/\z<=r.2
theorem WInv.zero (l:θ):WInv l 0 []:=
 ⟨zd,λr h=>(by cases h),λr h=>(by cases h),λr h=>(by cases h),λr h=>(by cases h),λr h=>(by cases h),λz hz h0=>by rw[eW] at hz;omega,.inl zd,zd,λr h=>(by cases h)⟩
theorem WInv.hit (h:WInv l c O) (hr:r∈l) (hl:zb5 l) (h1:r.1<=c) (h2:c<=r.2):WInv l (r.2+1) O:=by
 have hs:=hl r hr;have hv:=hs.2.2;rw[eW] at hv;have:=h.c0;refine⟨zo,λq hq=>by have:=h.ne q hq;omega,h.sep,λq hq=>.inl (by have:=h.ne q hq;omega),h.lo,h.hi,λz hz hzc=> ?_,?_,by have:=h.len;omega,h.live⟩
 . rcases (by omega:z<c\/c<=z) with e|e
   . exact h.mem z hz e
   constructor
   . rintro⟨q,hq,k1,k2⟩
     have:=h.ne q hq;omega
   intro hn
   exact absurd ⟨r,hr,zo,zo⟩ hn
 grind [zdU]
def zdk (l:θ) (c N:Int) (n:Nat):Prop:=
 (∀ (j:Nat) (r:Int×Int),j<n->l[j]?=some r->¬ (r.1<=c/\c<=r.2)/\(c<r.1->N<=r.1))/\(N=1114112\/∃ r∈l,N=r.1/\c<r.1)
theorem zdk.o {N:Int} (h:zdk l c N (I l)) {z:Int} (h1:c<=z) (h2:z<N):¬ inR l z:=by
 rintro⟨r,hr,k1,k2⟩;obtain⟨j,hj⟩:=List.mem_iff_getElem?.1 hr;have:=h.1 j r (List.getElem?_eq_some_iff.1 hj).1 hj;omega
theorem zdk.facts {N:Int} {n:Nat} (h:zdk l c N n) (hl:zb5 l) (hc:c<=1114111):c<N/\N<=1114112/\(cW N=true\/N=1114112)/\(inR l N\/1114111<N):=by
 rcases h.2 with e|⟨r,hr,e,e'⟩
 . omega
 have hs:=hl r hr
 have hv:=hs.2.1;rw[eW] at hv;exact⟨zo,zo,.inl zg,.inl ⟨r,hr,zo,zo⟩⟩
theorem WInv.gap {N:Int} (h:WInv l c O) (hl:zb5 l) (hc:c<=1114111) (hN:zdk l c N (I l)):WInv l N (if c<55296\/57343<c\/57344<N then O++[(c,N-1)] else O):=by
 obtain⟨n1,n2,n3,n4⟩:=hN.facts hl hc;have:=h.c0;have:∀ r∈O,r.2+1<c:=λr hr=>by
  rcases h.last r hr with e|⟨e,e'|e'⟩
  . exact e
  . exact absurd e' (hN.o (Int.le_refl _) n1)
  omega
 have PU:cW N=true\/N∈cJ\/1114111<N:=by
  rcases n3 with e|e
  . grind
  omega
 have YC:∀ z,cW z=true->z<N->(inR O z↔(¬ inR l z/\z<c)):=λz hz RT=>by
  rcases (by omega:z<c\/c<=z) with e|e
  . rw[h.mem z hz e]
    grind
  constructor
  . rintro⟨q,hq,k1,k2⟩
    grind
  omega
 by_cases hs:c<55296\/57343<c\/57344<N
 . rw[zP hs]
   have XP:∀ r,r∈O++[(c,N-1)]↔r∈O\/r=(c,N-1):=λr=>by simp
   refine⟨zo,λr hr=> ?_,λr hr q hq=> ?_,λr hr=> ?_,λr hr=> ?_,λr hr=> ?_,λz hz RT=> ?_,PU,by have:=h.len;grind,λr hr=> ?_⟩
   . rcases (XP r).1 hr with hr|rfl
     . have:=h.ne r hr;omega
     omega
   . rcases (XP r).1 hr with hr|rfl<;>rcases (XP q).1 hq with hq|rfl
     . exact h.sep r hr q hq
     all_goals grind
   . grind
   . rcases (XP r).1 hr with hr|rfl
     . exact h.lo r hr
     rcases h.cv with e|e|e
     all_goals grind
   . rcases (XP r).1 hr with hr|rfl
     . exact h.hi r hr
     grind
   . constructor
     . rintro⟨q,hq,k1,k2⟩
       rcases (XP q).1 hq with hq|rfl
       . exact ((YC z hz RT).1 ⟨q,hq,k1,k2⟩).1
       exact hN.o k1 RT
     intro hn
     rcases (by omega:z<c\/c<=z) with e|e
     . obtain⟨q,hq,k⟩:=(YC z hz RT).2 ⟨hn,e⟩
       exact⟨q,(XP q).2 (.inl hq),k⟩
     exact⟨(c,N-1),(XP _).2 (.inr rfl),e,zo⟩
   rcases (XP r).1 hr with hr|rfl
   . exact h.live r hr
   dsimp only
   rcases (by omega:(c<55296\/57343<c)\/(55296<=c/\c<=57343)) with e|e
   . exact⟨c,by rw[eW];omega,Int.le_refl _,zo⟩
   exact⟨57344,zd,zo,zo⟩
 rw[zN hs]
 refine⟨zo,λr hr=>by have:=h.ne r hr;omega,h.sep,λr hr=>.inl zg,h.lo,h.hi,λz hz RT=> ?_,PU,by have:=h.len;omega,h.live⟩
 grind [eW]
theorem WInv.done (h:WInv l c O) (hc:¬ c<=1114111):vH O/\∀ z,cW z=true->(inR O z↔¬ inR l z):=by
 have:=h.c0;refine⟨⟨λr hr=>by have:=h.ne r hr;omega,h.sep,h.lo,h.hi⟩,λz hz=>h.mem z hz ?_⟩;rw[eW] at hz;omega
theorem zce (l:θ) (i:Nat) (r:Int×Int) (h:l[i]?=some r):(fW l)[i*2]?=some (ι r.1)/\(fW l)[i*2+1]?=some (ι r.2):=by
 induction l generalizing i with
 | nil=>simp at h
 | cons a l ih=>
  have:fW (a::l)=ι a.1:: ι a.2::fW l:=rfl
  grind
theorem xM:eO prog 190 196 2 16:=eO.of (z:=.agg #[ι 0,ι 0]) underlying190 zK rfl zd
def RgSt (w0:ω) (O:θ) (v:Value) (w:ω):Prop:=w.r 196 2 v (I O) (fW O)/\(∀ g,β v=some g->w0.t<=g)/\w0.u w
theorem RgSt.app {w0 wr:ω} {v:Value} (h:RgSt w0 O v wr) {a b:Int} {o:Obj} {v4:Value} {w4:ω} (Hb:w4.r 196 2 v4 (I O+1) (fW O++[ι a,ι b])) (hg:(κ wr o).grownBy w4 (β v)) (qh:β v4=β v\/β v4=some (κ wr o).heap.size):RgSt w0 (O++[(a,b)]) v4 w4:=by
 have hs:=h.2.2.size;have:fW (O++[(a,b)])=fW O++[ι a,ι b]:=by simp[fW]
 exact⟨zg,iB qh h.2.1 zx,iK (h.2.2.alloc hs o) hg zx h.2.1⟩
theorem zg8 (l:θ) (ao:Option Addr) (cap:Nat) (w:ω) (hr:w.r 196 2 (τ ao (I l) cap) (I l) (fW l)) (hl:zb5 l) (hn:I l<=1000):
 Γ 156 #[τ ao (I l) cap] w λe w'=>∃ O v',e=ρ v'/\RgSt w O v' w'/\vH O/\(∀ z,cW z=true->(inR O z↔¬ inR l z))/\∀ r∈O,∃ z,cW z=true/\r.1<=z/\z<=r.2:=by
 have HR:=zh hr;have HL:=zh hl;clear hr hl;go_in;go_wp2;go_loopw [3,4] (λs3 s4 wr=>∃ (c:Int) (O:θ) (QP:Option Addr) (cap3:Nat),s4=ι c/\s3=τ QP (I O) cap3/\WInv l c O/\RgSt w O s3 wr) (λ_ s4 _=>1114112-(ϑ s4).toNat)
 case atStart=>exact⟨0,[],none,0,rfl,rfl,WInv.zero l,World.ownsRow_nil _ _ _ _,λg hg=>(by cases hg),iM⟩
 case round=>
  obtain⟨c,O,QP,cap3,rfl,rfl,hI,hO⟩:=hrel;have:=hI.c0;have:=hI.len;have HI:=zh hI;by_cases hc:c<=1114111
  . have HO:=Θ hO hO.1
    have Hb:=aU HR.o λg hg=>hO.2.2.block g (zbL HR.o g hg);have xn:=zh Hb;clear hI hO Hb;go_wp2;obtain⟨w3,yj⟩:=zE (wr);rw[<-yj] at HO xn ⊢;clear yj;go_loopw [5,6,7] (λs5 s6 s7 wr=>∃ (i:Nat) (N:Int),s7=ι i/\s5=ι N/\s6=φ false/\i<=I l/\zdk l c N i/\wr=w3) (λ_ _ s7 _=>I l-(ϑ s7).toNat)
    case atStart=>exact⟨0,1114112,rfl,rfl,rfl,rC,⟨λj r hj=>zo,.inl rfl⟩,rfl⟩
    case round=>
     obtain⟨i,N,rfl,rfl,rfl,hi,hN,rfl⟩:=hrel;by_cases YP:i<I l
     . have z1:=zt i (I l)
       obtain⟨⟨lo,Jk⟩,Bv⟩:∃ r,l[i]?=some r:=⟨_,zLe YP⟩;obtain⟨g,rfl⟩:∃ g,ao=some ⟨g,0,none⟩:=by
        rcases aY xn.o with⟨_,e⟩|⟨g,cap,e,_⟩
        all_goals simp_all
       obtain⟨q0,q1⟩:=zce l i _ Bv;have r0:=aJ xn.o _ _ q0;have r1:=aJ xn.o _ _ q1;have:=mF i;have Yd:=HL.o _ (zM Bv);dsimp only at r0 r1 Yd;have jm:=Yd.2.2;rw[eW] at jm;have FC:=Θ Bv Yd;have HN:=zh hN;clear q0 q1 Bv Yd hN;by_cases h1:lo<=c/\c<=Jk
       . have y1:lo<=c:=h1.1
         have y2:c<=Jk:=h1.2;have:=lM (n:=Jk+1);have Hg:=HI.o.hit (zM FC.o.1) HL.o h1.1 h1.2;have HF:=zh Hg;clear Hg h1;have XS:c<55296\/(¬ c<55296/\57343<c)\/(¬ c<55296/\¬ 57343<c/\57344<Jk+1)\/(¬ c<55296/\¬ 57343<c/\¬ 57344<Jk+1):=zo
         have HY:=Θ y2 XS;clear XS;go_upto_region 14 with fail
         clear y1 y2 r0 r1
         rcases HY.o.2 with y3|⟨y3,y4⟩|⟨y3,y4,y5⟩|⟨y3,y4,y5⟩
         all_goals
          go_wp2;go_roundw
          case rel=>exact⟨Jk+1,O,QP,cap3,rfl,rfl,HF.o,HO.o.1⟩
          case measure=>have:=HY.o.1;(simp[RowKit.intOf]<;>omega)
       have XS:(¬ lo<=c)\/(lo<=c/\¬ c<=Jk):=zo
       rcases XS with y1|⟨y1,y2⟩
       . have y3:c<lo:=zo
         by_cases h4:lo<N
         . go_wp2
           go_roundw
           case rel=>exact⟨i+1,lo,by go_num,rfl,rfl,zo,⟨λj r hj hr=>by
            rcases (by omega:j<i\/j=i) with e|rfl
            . have:=HN.o.1 j r e hr
              omega
            . rw[FC.o.1] at hr
              cases hr;omega,.inr ⟨_,zM FC.o.1,rfl,y3⟩⟩,trivial⟩
           case measure=>exact zY
         go_wp2
         exact zzBA
       have y3:¬ c<lo:=zo
       go_wp2;exact zzBA
     have z1:=zn i (I l)
     obtain rfl:i=I l:=by omega
     obtain⟨n1,n2,_,_⟩:=hN.facts HL.o hc;have Hg:=HI.o.gap HL.o hc hN;have:=lM (n:=N-1);by_cases hs:c<55296\/57343<c\/57344<N
     . rw[zP hs] at Hg
       have HF:=zh Hg;have XS:c<55296\/(¬ c<55296/\57343<c)\/(¬ c<55296/\¬ 57343<c/\57344<N):=zo
       clear Hg hN hs;have ez:=HO;have HO:=Θ trivial ez.o.1
       rcases XS with y3|⟨y3,y4⟩|⟨y3,y4,y5⟩
       all_goals
        go_wp2_with (first|(at_builtin;refine bM _ rfl _ _ rfl xM _ _ _ rfl (by exact aN HO.o.2.1 (iM.alloc bR _)) wr.z 1 1 [ι c,ι (N-1)] rfl rfl (cI _ #[ι c,ι (N-1)] _ _ rfl) zzAU zd zo zd ?_;intro v4 w4 Hr ql Qu;obtain⟨g4,Hz,rfl⟩:=cH Hr;have H4:=Λ Hr ql Qu;clear Hr ql Qu));go_roundw
        case rel=>exact⟨N,O++[(c,N-1)],some g4.a,Hz,rfl,zs,HF.o,HO.o.2.app H4.o.1 H4.o.2.1 H4.o.2.2⟩
        case measure=>exact zY
     rw[zN hs] at Hg
     have HF:=zh Hg;have y3:¬ c<55296:=zo
     have y4:¬ 57343<c:=zo
     have y5:¬ 57344<N:=zo
     clear Hg hN hs;go_wp2;go_roundw
     case rel=>exact⟨N,O,QP,cap3,rfl,rfl,HF.o,HO.o.1⟩
     case measure=>exact zY
  have hd:=hI.done hc
  have CT:=hI.live;clear hI;go_wp2;go_ret;exact⟨O,_,rfl,hO,hd.1,hd.2,λa b h=>CT (a,b) h⟩
theorem za1 :∀ (f p v d:Nat) (v' d' q:Nat),dR s k f p v d=.ok (v',d',q)->p<=q
 | 0,p,v,d,v',d',q,h=>by rw[dR] at h;cases h
 | f+1,p,v,d,v',d',q,h=>by
  rw[dR] at h;split at h
  . split at h
    . cases h
    split at h
    . cases h
    have:=za1 f _ _ _ _ _ _ h;omega
  grind
theorem coded_ok (h:eY s p k=.ok (c,q)):p<q/\cW c=true:=by
 unfold eY at h;split at h
 . split at h
   . cases h
   rename_i v d q' hl
   split at h
   . rename_i hh
     cases h;have:=za1 _ _ _ _ _ _ _ hl
     grind [eW]
   grind
 grind
theorem one_valid (h:0<=(bT s p).1):cW (bT s p).1=true/\1<=(bT s p).2:=by
 grind [bT,iL,eW]
theorem zcU (hp:p<=s.size) (h0:0<=(bT s p).1) (h:cD s p=.ok (c,q)):p<q/\cW c=true:=by
 have:=one_valid h0;by_cases Al:(bT s p).1=92
 . obtain⟨h1,_⟩:=one_92 Al
   rw[zbv (Prod.ext Al h1)] at h;split at h
   . split at h
     . cases h;exact⟨zo,zd⟩
     split at h
     . cases h;exact⟨zo,zd⟩
     split at h
     . cases h;exact⟨zo,zd⟩
     split at h
     . have:=coded_ok h;grind
     split at h
     . rename_i hc
       cases h;have:=zgt hc;exact⟨zo,by rw[eW];omega⟩
     grind
   grind
 grind [yH]
def xJ (nt:Bool) (k:Nat) (r:Except mP (θ×Nat)):Except mP (θ×Nat):=
 match r with
 | .error e=>.error e
 | .ok (l,q)=>if nt=true then (if jR l=[] then .error (3,k) else .ok (jR l,q+1)) else .ok (l,q+1)
theorem zan (h:cQ s p=.ok c):dN s p k=xJ (decide (c=94)) k (eH s (s.size+2) (if c=94 then p+1 else p) []):=by
 grind [dN,xJ]
theorem zbd {f:Nat} :eH s (f+1) q l=
 match cQ s q with
 | .error e=>.error e
 | .ok c=>if c=93/\l≠[] then .ok (l,q) else match kV s q with| .error e=>.error e| .ok (x,q)=>eH s f q (l++[x]):=by
 grind [eH,kV,oX]
section
variable {B pb:Nat} {s:η} {x:Pr} {lv:Value} {w wr wa w4:ω} {vo:Option Nat}
theorem gD.grown (h:gD B pb s x lv wr) (hb:wr.u wa) (hg:wa.grownBy w4 vo) (hp:vo≠some pb) (hl:∀ g,β lv=some g->vo≠some g) (hr:∀ d∈x.ns,∀ g,β d.r=some g->vo≠some g):gD B pb s x lv w4:=by
 have h1:=h.below hb;exact⟨(hg.block pb h1.lt (λe=>hp e.symm)).trans h1.blk,aU h1.row λg QY=>hg.block g (h1.rlt g QY) (λe=>hl g QY e.symm),h1.low,h1.sz,λd hd=>⟨aU (h1.rg d hd).1 λg QY=>hg.block g (zbL (h1.rg d hd).1 g QY) (λe=>hr d hd g QY e.symm),(h1.rg d hd).2⟩,h1.nb⟩
theorem PK.grown {v v':Value} (h:PK pb v v' w wr) (hb:wr.u wa) (hg:wa.grownBy w4 vo) (hvo:∀ g,vo=some g->w.t<=g):PK pb v v' w w4:=
 ⟨hg.os.trans (hb.os.trans h.os),hg.tape.trans (hb.tape.trans h.tape),hg.output.trans (hb.output.trans h.output),zT h.size (zT hb.size hg.size),
  λb h1 h2 h3=>(hg.block b (by have:=h.size;have:=hb.size;omega) (λe=>zg)).trans ((hb.block b (by have:=h.size;omega)).trans (h.keep b h1 h2 h3)),h.new⟩
theorem zh0 {v v':Value} {v8:Value} (h:wr.r 196 2 v8 (I l) (fW l)) (hk:PK pb v v' wr w4) (hp:∀ g,β v8=some g->g≠pb/\β v≠some g):w4.r 196 2 v8 (I l) (fW l):=
 aU h λg hg=>hk.keep g (zbL h g hg) (hp g hg).1 (hp g hg).2
end
theorem zaD :∀ (f p v d:Nat),d+f=8->d<=6->dR s k f p v d=.error er->er=(2,k)
 | 0,p,v,d,h1,h2,_=>by omega
 | f+1,p,v,d,h1,h2,h=>by
  rw[dR] at h;split at h
  . split at h
    . grind
    split at h
    . grind
    exact zaD f _ _ _ zo zo h
  grind
theorem coded_err (h:eY s p k=.error er):er=(2,k):=by
 unfold eY at h;split at h
 . split at h
   . rename_i e hl
     cases h;exact zaD 8 _ _ _ rfl zo hl
   grind
 grind
theorem sJ (hp:p<=s.size) (h:cD s p=.error er):er=(2,p):=by
 grind [zdM,zbv,one_92,coded_err,yH]
theorem oJ (h:0<=(bT s p).1/\(bT s p).1<128):(bT s p).2=1/\p<s.size:=by
 grind [zgM,zeA,uG]
def FailS (s:η) (x:Pr) (k:Nat) (y:Pr):Prop:=∃ (q:Nat) (er:mP),x.aQ<=q/\q<=s.size/\y={x with aQ:=q,e:=er.1,wh:=er.2}/\er.1≠0/\dN s x.aQ k=.error er
def GoS (s:η) (x:Pr) (k:Nat) (nt:Bool) (l:θ) (y:Pr):Prop:=∃ q f:Nat,x.aQ<=q/\q<=s.size/\y={x with aQ:=q}/\s.size<f+q/\zb5 l/\I l<=q/\dN s x.aQ k=xJ nt k (eH s f q l)
def DoneS (s:η) (x:Pr) (k:Nat) (nt:Bool) (l:θ) (y:Pr):Prop:=∃ q:Nat,x.aQ<=q+1/\q+1<=s.size/\y={x with aQ:=q+1}/\zb5 l/\I l<=60/\dN s x.aQ k=xJ nt k (.ok (l,q))
def ClassO (B pb:Nat) (s:η) (x:Pr) (res:Except mP (θ×Nat)) (lv:Value) (w:ω) (e:Ending) (w':ω):Prop:=
 ∃ (v:Value) (l':θ) (y:Pr),e=ρ v/\PrO B pb s y lv w w'/\w'.r 196 2 v (I l') (fW l')/\(∀ g,β v=some g->w.t<=g)/\OkR s x y (res.map (·.2))/\
  ∀ l q,res=.ok (l,q)->nY l' l/\∀ r∈l',0<=r.1/\r.1<=1114111/\0<=r.2/\r.2<=1114111
def RwS (w:ω) (l:θ) (v:Value) (wr:ω):Prop:=wr.r 196 2 v (I l) (fW l)/\∀ g,β v=some g->w.t<=g
section
variable {B pb:Nat} {s:η} {x y:Pr} {lv:Value} {w wr w4:ω} {l:θ} {v8:Value}
theorem RwS.keep {wb:ω} (h:RwS w l v8 wr) (hk:PK pb lv lv wr wb) (hp:pb<w.t) (CT:∀ g,β lv=some g->g<w.t):RwS w l v8 wb:=
 ⟨zh0 h.1 hk λg hg=>⟨by have:=h.2 g hg;omega,λe=>by have:=h.2 g hg;grind⟩,h.2⟩
theorem RwS.app {a b:Int} {o:Obj} {v4:Value} (h:RwS w l v8 wr) (hx:gD B pb s y lv wr) (hk:PK pb lv lv w wr) (hp:pb<w.t) (CT:∀ g,β lv=some g->g<w.t) (hr:∀ d∈y.ns,∀ g,β d.r=some g->g<w.t)
 (Hb:w4.r 196 2 v4 (I l+1) (fW l++[ι a,ι b])) (hg:(κ wr o).grownBy w4 (β v8)) (qh:β v4=β v8\/β v4=some (κ wr o).heap.size):
 RwS w (l++[(a,b)]) v4 w4/\gD B pb s y lv w4/\PK pb lv lv w w4:=by
 have e:fW (l++[(a,b)])=fW l++[ι a,ι b]:=by simp[fW]
 have hb:wr.u (κ wr o):=iM.alloc bR _;refine⟨⟨zg,iB qh h.2 (by have:=hk.size;simp;omega)⟩,hx.grown hb hg (λe=>by have:=h.2 pb e;omega) (λg QY e=>by have:=h.2 g e;grind) (λd hd g QY e=>by have:=h.2 g e;grind),hk.grown hb hg h.2⟩
end
theorem zcG {y:Pr} (h:y.e≠0):eI s y=y:=by
 grind [eI,fK]
theorem item_edge (h:cQ s q=.ok c) (hs:c= -1\/c=91\/c=93\/c=45):kV s q=.error (2,q):=by
 grind [kV,oX]
theorem item_lo (h:cQ s q=.ok c) (hs:¬ (c= -1\/c=91\/c=93\/c=45)):kV s q=match cD s q with
 | .error e=>.error e
 | .ok (lo,q1)=>match cQ s q1 with
  | .error e=>.error e
  | .ok c=>if c=45 then (match oX s (q1+1) with| .error e=>.error e| .ok (hi,q2)=>if hi<lo then .error (3,q) else .ok ((lo,hi),q2)) else .ok ((lo,lo),q1):=by
 unfold kV;rw[show oX s q=cD s q by grind [oX]];rfl
theorem ziY (B pb:Nat) (s:η) (x:Pr) (lv:Value) (w:ω) (h:gD B pb s x lv w) (he:x.e=0) (k:Nat) (hk:k<=60):
 Γ 142 #[bH pb,ι k] w (ClassO B pb s x (dN s x.aQ k) lv w):=by
 have HE:=zh he;have hz:=h.sz;have HB:=Ψ h.lt h.rlt (λd hd=>zbL (h.rg d hd).1:∀ d∈x.ns,∀ g,β d.r=some g->g<w.t) hk;have qx:=iR B pb s x lv w h;have kq:zH (eI s x=if (bT s x.aQ).1<0/\0<(bT s x.aQ).2 then fK x 2 x.aQ else x):=zh rfl;have Qk:=zh (gA s x.aQ);have Xt:=zh (oJ (s:=s) (p:=x.aQ));have qo:=nC s x.aQ hz.2.1;generalize eI s x=y1 at qx kq;generalize bT s x.aQ=cn at qx qo kq Qk Xt
 obtain⟨c,n⟩:=cn;dsimp only at qx qo kq Qk Xt;unfold bH at qx ⊢;have Qx:=zh qx;clear qx h he;go_in;go_upto_if 22 with (go_at_call 73;refine Qx.o.mono ?_;rintro e' w1 ⟨rfl,ho⟩;have H1:=zh ho;clear ho);go_cut [5] (λs5 wx=>∃ (nt:Bool) (y:Pr),s5=φ nt/\gD B pb s y lv wx/\PK pb lv lv w wx/\(FailS s x k y\/GoS s x k nt [] y))
 case first=>
  obtain⟨d0,d1,d2,_⟩:=H1.o.1.cells;have:=bN w1 pb 1 _ _ H1.o.1.blk;by_cases hc:c=94
  . have hyx:y1=x:=by rw[kq.o,zN zo]
    obtain⟨QR,Qq⟩:=Xt.o zo;have Qd:cQ s x.aQ=.ok c:=by rw[Qk.o,zN zo]
    have Hh:=zan (k:=k) Qd;rw[zP hc,decide_eq_true hc] at Hh;have Hl:=zh Hh;subst hc;subst QR;have Iu:=H1.o;rw[hyx] at d1 Iu;have Ht:=Iu.1.set 1 (ι ((x.aQ:Int)+1)) {x with aQ:=x.aQ+1} zs rfl ⟨by assumption,Iu.1.sz.2.2.1,Iu.1.sz.2.2.2⟩;have HF:=Θ Ht (Iu.2.trans (PK.set (pb:=pb) (v:=lv) 1 (w:=w1) (ι ((x.aQ:Int)+1))));have YJ:=mF x.aQ;clear hyx Qd Hh Iu Ht;go_wp2;go_meet
    exact⟨true,_,rfl,HF.o.1,HF.o.2,.inr ⟨x.aQ+1,s.size+2,zo,zo,rfl,zo,(λr hr=>(by cases hr)),zs,Hl.o⟩⟩
  . have Sz:(c==94)=false:=by simp[hc]
    have qy:FailS s x k y1\/GoS s x k false [] y1:=by
     by_cases hb:c<0/\0<n
     . refine .inl ⟨x.aQ,(2,x.aQ),bR,hz.2.1,?_,zo,?_⟩
       . rw[kq.o,zP hb]
         unfold fK;rw[zP HE.o]
       unfold dN
       rw[Qk.o,zP hb]
     refine .inr ⟨x.aQ,s.size+2,bR,hz.2.1,by rw[kq.o,zN hb],zo,(λr hr=>(by cases hr)),zs,?_⟩
     have Qd:cQ s x.aQ=.ok c:=by rw[Qk.o,zN hb]
     have Hh:=zan (k:=k) Qd;rw[zN hc,decide_eq_false hc] at Hh;exact Hh
    have QM:=zh qy;clear qy hc;go_wp2;go_meet;exact⟨false,_,rfl,H1.o.1,H1.o.2,QM.o⟩
 case rest=>
  obtain⟨nt,y,rfl,yf,QF,Kc⟩:=hcut;have H2:=Λ yf QF Kc;clear yf QF Kc
  go_upto_block 0 with fail
  go_cut [8] (λs8 wx=>∃ (ao:Option Addr) (cap:Nat) (l:θ) (y:Pr),s8=τ ao (I l) cap/\RwS w l s8 wx/\gD B pb s y lv wx/\PK pb lv lv w wx/\(FailS s x k y\/DoneS s x k nt l y))
  case first=>
   go_wp2;go_loopg [8] 200 (λgh s8 wr=>∃ (G:Nat) (ao:Option Addr) (cap:Nat) (l:θ) (y:Pr),G=gh/\s8=τ ao (I l) cap/\RwS w l s8 wr/\gD B pb s y lv wr/\PK pb lv lv w wr/\((FailS s x k y/\I l<=62)\/(GoS s x k nt l y/\s.size-y.aQ<G)))
   case atStart=>exact⟨200,none,0,[],y,rfl,rfl,⟨World.ownsRow_nil _ _ _ _,λg hg=>(by cases hg)⟩,H2.o.1,H2.o.2.1,H2.o.2.2.imp (λh=>⟨h,zs⟩) (λh=>⟨h,zo⟩)⟩
   case round=>
    obtain⟨G,ao,cap,l,y,hG,rfl,Yx,hp,YQ,Hh⟩:=hrel;have HG:=zh hG;clear hG;obtain⟨c0,c1,c2,_⟩:=hp.cells;have xn:=zh Yx;have Wt:=Θ hp YQ
    rcases Hh with⟨hf,hl62⟩|⟨⟨q,f,h1,h2,rfl,h4,h5,h6,h7⟩,hgh⟩
    . have DY:y.e≠0:=by
       obtain⟨q,er,_,_,h3,h4,_⟩:=hf;rw[h3];exact h4
      have z0:((y.e:Int)==0)=false:=zx
      have HF:=zh hf;clear hf Yx hp YQ DY;go_wp2;go_meet;exact⟨ao,cap,l,y,rfl,xn.o,Wt.o.1,Wt.o.2,.inl HF.o⟩
    . dsimp only at c1 c2 hgh
      rw[HE.o] at c2;have qx:=iR B pb s {x with aQ:=q} lv wr hp;have kq:zH (eI s {x with aQ:=q}=if (bT s q).1<0/\0<(bT s q).2 then fK {x with aQ:=q} 2 q else {x with aQ:=q}):=zh rfl;have Qk:=zh (gA s q);have Xt:=zh (oJ (s:=s) (p:=q));have FS:=zh (λ(c:Int) (q':Nat)=>zcU (s:=s) (p:=q) (q:=q') (c:=c) h2);have qo:=nC s q h2;obtain⟨f,rfl⟩:∃ g,f=g+1:=⟨f-1,zo⟩;have ym:=zbd (s:=s) (f:=f) (q:=q) (l:=l);dsimp only at qx
      generalize eI s {x with aQ:=q}=y3 at qx kq;generalize bT s q=cn at qx qo kq Qk Xt FS;obtain⟨c,n⟩:=cn;dsimp only at qx qo kq Qk Xt FS;unfold bH at qx;have Qx:=zh qx;have Hl:=Λ h7 ym h5;have XC:zH (I l<=60):=zh zo;clear qx h7 ym h5 Yx hp YQ;go_upto_region 10 with (go_at_call 73;refine Qx.o.mono ?_;rintro e' w3 ⟨rfl,ho⟩;have H3:=zh ho;clear ho)
      have PD:=zh (xn.o.keep H3.o.2 HB.o.1 HB.o.2.1);have tI:=zh (Wt.o.2.trans H3.o.2);obtain⟨d0,d1,d2,_⟩:=H3.o.1.cells;have f3:=bN w3 pb 1 _ _ H3.o.1.blk;clear c0 c1 c2;by_cases Qt:c<0/\0<n
      . have RQ:y3={x with aQ:=q,e:=2,wh:=q}:=by
         rw[kq.o,zP Qt];unfold fK;rw[zP HE.o]
        have Yi:=iQ B pb s y3 lv w3 H3.o.1 2 q zo zo;rw[show fK y3 2 q=y3 by rw[RQ];rfl] at Yi;unfold bH at Yi;have Tj:=zh Yi;have kx:c<0:=Qt.1;have Sz:(c==93)=false:=zx
        have Qf:dN s x.aQ k=.error (2,q):=by
         rw[Hl.o.1,Hl.o.2.1,Qk.o,zP Qt];rfl
        have JN:=Θ Qf RQ;clear Yi Qt Qf RQ;go_wp2_with (first|(go_at_call 32;refine Tj.o.mono ?_;rintro e' w4 ⟨rfl,ho⟩;have H5:=zh ho;clear ho));go_meet;exact⟨ao,cap,l,y3,rfl,PD.o.keep H5.o.2 HB.o.1 HB.o.2.1,H5.o.1,tI.o.trans H5.o.2,.inl ⟨q,(2,q),h1,h2,JN.o.2,zo,JN.o.1⟩⟩
      . have RQ:y3={x with aQ:=q}:=by rw[kq.o,zN Qt]
        subst RQ;have Pm:cQ s q=.ok c:=by rw[Qk.o,zN Qt]
        dsimp only at d1 d2;rw[HE.o] at d2;by_cases hd:c=93/\l≠[]
        . obtain⟨rfl,qg⟩:=hd
          obtain⟨rfl,VR⟩:=Xt.o zd;have Ht:=H3.o.1.set 1 (ι ((q:Int)+1)) {x with aQ:=q+1} zs rfl ⟨by assumption,H3.o.1.sz.2.2.1,H3.o.1.sz.2.2.2⟩;have On:=PK.set (pb:=pb) (v:=lv) 1 (w:=w3) (ι ((q:Int)+1));have YF:=Θ Ht On;have Hq:dN s x.aQ k=xJ nt k (.ok (l,q)):=by
           rw[Hl.o.1,Hl.o.2.1,Pm];dsimp only;rw[zP ⟨rfl,qg⟩]
          have QA:=zh Hq;have zl:(0:Int)<(I l:Int):=by
           have:0<I l:=List.length_pos_iff.2 qg;omega
          have YJ:=mF q;clear Ht On Hq Pm Qt qg;go_wp2;go_meet;exact⟨ao,cap,l,_,rfl,PD.o.keep YF.o.2 HB.o.1 HB.o.2.1,YF.o.1,tI.o.trans YF.o.2,.inr ⟨q,zo,VR,rfl,Hl.o.2.2,XC.o,QA.o⟩⟩
        . have KT:dN s x.aQ k=xJ nt k (match kV s q with| .error e=>.error e| .ok (x,q)=>eH s f q (l++[x])):=by
           rw[Hl.o.1,Hl.o.2.1,Pm];dsimp only;rw[zN hd]
           first|done|rfl
          by_cases hs:c= -1\/c=91\/c=93\/c=45
          . have hit:=item_edge Pm hs
            have Qf:dN s x.aQ k=.error (2,q):=by rw[KT,hit];rfl
            have Yi:=iQ B pb s {x with aQ:=q} lv w3 H3.o.1 2 q zo zo;rw[show fK {x with aQ:=q} 2 q={x with aQ:=q,e:=2,wh:=q} by unfold fK;rw[zP HE.o]] at Yi;unfold bH at Yi;have Tj:=zh Yi;have JN:=zh Qf;have QZ:c=93->l=[]:=λe=>Classical.byContradiction λh=>hd ⟨e,h⟩;clear Yi Qf hit KT Qt hd Pm
            rcases hs with rfl|rfl|rfl|rfl
            case' inr.inr.inl=>
             obtain rfl:=QZ rfl
            all_goals
             clear QZ;go_wp2_with (first|(go_at_call 32;refine Tj.o.mono ?_;rintro e' w4 ⟨rfl,ho⟩;have H5:=zh ho;clear ho));go_meet;exact⟨ao,cap,_,_,rfl,PD.o.keep H5.o.2 HB.o.1 HB.o.2.1,H5.o.1,tI.o.trans H5.o.2,.inl ⟨q,(2,q),h1,h2,rfl,zo,JN.o⟩⟩
          . have hit:=item_lo Pm hs
            rw[hit] at KT;have kx:¬ c<0:=zo
            have:(c==93)=false:=zx
            have:(c==91)=false:=zx
            have:(c==45)=false:=zx
            have Yd:=zav B pb s {x with aQ:=q} lv w3 H3.o.1 HE.o;dsimp only at Yd;unfold bH at Yd;have Vk:=zh Yd;have WC:=zh (λ(c':Int) (q':Nat)=>FS.o c' q' zo);clear Yd hit Qt hd Pm hs;go_upto_region 16 with (go_at_call 143;refine Vk.o.mono ?_;rintro e' w5 ⟨v5,y5,rfl,JE,jr,Nc,ER,OW⟩;have H5:=Ψ JE jr Nc (zAi ER OW);clear JE jr Nc ER OW)
            have dc:=zh (PD.o.keep H5.o.1.2 HB.o.1 HB.o.2.1);have JQ:=zh (tI.o.trans H5.o.1.2);have T3:=H5.o.2.2.2.1;have Rt:=H5.o.2.2.2.2;have:q<=60:=zo
            clear d0 d1 d2 f3;cases JF:cD s q with
            | error er=>
             obtain rfl:=sJ h2 JF;rw[JF] at T3 KT;obtain⟨q5,k1,k2,rfl⟩:=T3;dsimp only at k1;have Qf:dN s x.aQ k=.error (2,q):=by rw[KT];rfl
             have JN:=zh Qf;have qx:=iR B pb s {x with aQ:=q5,e:=2,wh:=q} lv w5 H5.o.1.1;rw[zcG (show (2:Nat)≠0 by decide)] at qx;dsimp only at qx;generalize bT s q5=c6 at qx;obtain⟨c6,n6⟩:=c6;unfold bH at qx;have Qx:=zh qx;clear qx Qf KT JF Rt;go_upto_region 17 with (go_at_call 73;refine Qx.o.mono ?_;rintro e' w6 ⟨rfl,ho⟩;have H6:=zh ho;clear ho)
             obtain⟨_,_,e2,_⟩:=H6.o.1.cells;dsimp only at e2;have Xb:=zh (dc.o.keep H6.o.2 HB.o.1 HB.o.2.1);have Py:=Θ H6.o.1 (JQ.o.trans H6.o.2);have Kx:=zh HB.o.2.2.1
             go_wp2_with (first|(at_builtin;refine bM _ rfl _ _ rfl xM _ _ _ rfl zzBS w6.z 1 1 [ι v5,ι v5] rfl rfl (cI _ #[ι v5,ι v5] _ _ rfl) zzAU zd zo zd ?_;intro v4 w4 Hr ql Qu;obtain⟨g4,Hz,rfl⟩:=cH Hr;have H4:=zh (Xb.o.app Py.o.1 Py.o.2 HB.o.1 HB.o.2.1 Kx.o Hr ql Qu);clear Hr ql Qu));go_roundg (G-1)
             case rel=>exact⟨G-1,some g4.a,Hz,l++[(v5,v5)],{x with aQ:=q5,e:=2,wh:=q},rfl,zs,H4.o.1,H4.o.2.1,H4.o.2.2,.inl ⟨⟨q5,(2,q),zo,zo,rfl,zs,JN.o⟩,zx⟩⟩
             case measure=>have:=HG.o;omega
            | ok r=>
             obtain⟨lo,q1⟩:=r;obtain rfl:=Rt lo q1 JF;obtain⟨hq1,Iq⟩:=WC.o v5 q1 JF;rw[JF] at T3 KT;obtain⟨rfl,_,hq1s⟩:=T3;dsimp only at KT;have qx:=iR B pb s {x with aQ:=q1} lv w5 H5.o.1.1;have Pz:zH (eI s {x with aQ:=q1}=if (bT s q1).1<0/\0<(bT s q1).2 then fK {x with aQ:=q1} 2 q1 else {x with aQ:=q1}):=zh rfl;have xz:=zh (gA s q1);have TC:=zh (oJ (s:=s) (p:=q1));have Vb:=nC s q1 hq1s;dsimp only at qx
             generalize eI s {x with aQ:=q1}=y6 at qx Pz;generalize bT s q1=dn at qx Pz xz TC Vb;obtain⟨d,n2⟩:=dn;dsimp only at qx Pz xz TC Vb;unfold bH at qx;have Qx:=zh qx;have Lr:=zh KT;clear qx JF Rt KT;go_upto_region 17 with (go_at_call 73;refine Qx.o.mono ?_;rintro e' w6 ⟨rfl,ho⟩;have H6:=zh ho;clear ho)
             obtain⟨e0,e1,e2,_⟩:=H6.o.1.cells;have fe6:=bN w6 pb 1 _ _ H6.o.1.blk;have FL:=zh (dc.o.keep H6.o.2 HB.o.1 HB.o.2.1);have Kw:=zh (JQ.o.trans H6.o.2);by_cases KN:d<0/\0<n2
             . have La:y6={x with aQ:=q1,e:=2,wh:=q1}:=by rw[Pz.o,zP KN];unfold fK;rw[zP HE.o]
               subst La;dsimp only at e2;have Qf:dN s x.aQ k=.error (2,q1):=by
                rw[Lr.o,xz.o,zP KN];rfl
               have JN:=zh Qf;clear Qf KN;have Xb:=zh FL.o;have Py:=Θ H6.o.1 Kw.o;have Kx:=zh HB.o.2.2.1
               go_wp2_with (first|(at_builtin;refine bM _ rfl _ _ rfl xM _ _ _ rfl zzBS w6.z 1 1 [ι v5,ι v5] rfl rfl (cI _ #[ι v5,ι v5] _ _ rfl) zzAU zd zo zd ?_;intro v4 w4 Hr ql Qu;obtain⟨g4,Hz,rfl⟩:=cH Hr;have H4:=zh (Xb.o.app Py.o.1 Py.o.2 HB.o.1 HB.o.2.1 Kx.o Hr ql Qu);clear Hr ql Qu));go_roundg (G-1)
               case rel=>exact⟨G-1,some g4.a,Hz,l++[(v5,v5)],{x with aQ:=q1,e:=2,wh:=q1},rfl,zs,H4.o.1,H4.o.2.1,H4.o.2.2,.inl ⟨⟨q1,(2,q1),zo,zo,rfl,zs,JN.o⟩,zx⟩⟩
               case measure=>have:=HG.o;omega
             . have La:y6={x with aQ:=q1}:=by rw[Pz.o,zN KN]
               subst La;dsimp only at e1 e2;rw[HE.o] at e2;have hpd:cQ s q1=.ok d:=by rw[xz.o,zN KN]
               have PR:=Lr.o;rw[hpd] at PR;dsimp only at PR;by_cases Bc:d=45
               . rw[zP Bc] at PR
                 subst Bc;obtain⟨rfl,hq1l⟩:=TC.o zd;have Ht:=H6.o.1.set 1 (ι ((q1:Int)+1)) {x with aQ:=q1+1} zs rfl ⟨by assumption,H6.o.1.sz.2.2.1,H6.o.1.sz.2.2.2⟩;have YF:=Θ Ht (PK.set (pb:=pb) (v:=lv) 1 (w:=w6) (ι ((q1:Int)+1)));have YJ:=mF q1;have Ff:=zh PR;clear Ht PR hpd KN;go_upto_region 19 with fail
                 obtain⟨w7,Kp⟩:=zE (ς w6 (pb.p 1) (ι ((q1:Int)+1)));rw[<-Kp] at YF ⊢;clear Kp e0 e1 e2 fe6;have Wy:=zh (FL.o.keep YF.o.2 HB.o.1 HB.o.2.1);have ec:=zh (Kw.o.trans YF.o.2);have qx:=iR B pb s {x with aQ:=q1+1} lv w7 YF.o.1;have PA:zH (eI s {x with aQ:=q1+1}=if (bT s (q1+1)).1<0/\0<(bT s (q1+1)).2 then fK {x with aQ:=q1+1} 2 (q1+1) else {x with aQ:=q1+1}):=zh rfl;have YL:=zh (gA s (q1+1))
                 have FR:=zh (λ(c':Int) (q':Nat)=>zcU (s:=s) (p:=q1+1) (q:=q') (c:=c') zo);have Ou:=nC s (q1+1) zo;dsimp only at qx;generalize eI s {x with aQ:=q1+1}=y8 at qx PA;generalize bT s (q1+1)=fn at qx PA YL FR Ou;obtain⟨f9,n9⟩:=fn;dsimp only at qx PA YL FR Ou;unfold bH at qx;have Qx:=zh qx;clear qx
                 go_upto_region 20 with (go_at_call 73;refine Qx.o.mono ?_;rintro e' w8 ⟨rfl,ho⟩;have H8:=zh ho;clear ho)
                 obtain⟨g0,g1,g2,_⟩:=H8.o.1.cells;have FM:=zh (Wy.o.keep H8.o.2 HB.o.1 HB.o.2.1);have uk:=zh (ec.o.trans H8.o.2);by_cases V4:f9<0/\0<n9
                 . have hy8:y8={x with aQ:=q1+1,e:=2,wh:=q1+1}:=by rw[PA.o,zP V4];unfold fK;rw[zP HE.o]
                   subst hy8;dsimp only at g1;have Yi:=iQ B pb s {x with aQ:=q1+1,e:=2,wh:=q1+1} lv w8 H8.o.1 2 (q1+1) zo zo;rw[show fK {x with aQ:=q1+1,e:=2,wh:=q1+1} 2 (q1+1)={x with aQ:=q1+1,e:=2,wh:=q1+1} from rfl] at Yi;unfold bH at Yi;have Tj:=zh Yi;have Qf:dN s x.aQ k=.error (2,q1+1):=by
                    rw[Ff.o];unfold oX;rw[YL.o,zP V4];rfl
                   have JN:=zh Qf;have:f9<0:=V4.1;clear Yi Qf V4;exact zzA2
                 have hy8:y8={x with aQ:=q1+1}:=by rw[PA.o,zN V4]
                 subst hy8;dsimp only at g1 g2;rw[HE.o] at g2;have SM:cQ s (q1+1)=.ok f9:=by rw[YL.o,zN V4]
                 by_cases tk:f9= -1\/f9=91\/f9=93\/f9=45
                 . have Qf:dN s x.aQ k=.error (2,q1+1):=by
                    rw[Ff.o];unfold oX;rw[SM];dsimp only;rw[zP tk];rfl
                   have Yi:=iQ B pb s {x with aQ:=q1+1} lv w8 H8.o.1 2 (q1+1) zo zo;rw[show fK {x with aQ:=q1+1} 2 (q1+1)={x with aQ:=q1+1,e:=2,wh:=q1+1} by unfold fK;rw[zP HE.o]] at Yi;unfold bH at Yi;have Tj:=zh Yi;have JN:=zh Qf;clear Yi Qf V4 SM
                   rcases tk with rfl|rfl|rfl|rfl
                   all_goals
                    exact zzA2
                 have Xk:=Ff.o
                 unfold oX at Xk;rw[SM] at Xk;dsimp only at Xk;rw[zN tk] at Xk;have:¬ f9<0:=zo
                 have y1:(f9==93)=false:=zx
                 have:(f9==91)=false:=zx
                 have y3:(f9==45)=false:=zx
                 have Yd:=zav B pb s {x with aQ:=q1+1} lv w8 H8.o.1 HE.o;dsimp only at Yd;unfold bH at Yd;have Vk:=zh Yd;have WD:=zh (λ(c':Int) (q':Nat)=>FR.o c' q' zo);clear Yd V4 SM tk;go_upto_region 23 with (go_at_call 143;refine Vk.o.mono ?_;rintro e' w9 ⟨v9,y9,rfl,JE,jr,Nc,ER,OW⟩;have H9:=Ψ JE jr Nc (zAi ER OW);clear JE jr Nc ER OW)
                 have Uk:=zh (FM.o.keep H9.o.1.2 HB.o.1 HB.o.2.1);have ul:=zh (uk.o.trans H9.o.1.2);have Dy:=H9.o.2.2.2.1;have AM:=H9.o.2.2.2.2;obtain⟨_,_,m2,_⟩:=H9.o.1.1.cells;clear g0 g1 g2;cases tA:cD s (q1+1) with
                 | error er=>
                  obtain rfl:=sJ zo tA;rw[tA] at Dy Xk;obtain⟨q9,k1,k2,rfl⟩:=Dy;dsimp only at k1 m2;have Qf:dN s x.aQ k=.error (2,q1+1):=by rw[Xk];rfl
                  have JN:=zh Qf;clear Qf Xk tA AM;have Xb:=zh Uk.o;have Py:=Θ H9.o.1.1 ul.o;have Kx:=zh HB.o.2.2.1
                  go_wp2_with (first|(at_builtin;refine bM _ rfl _ _ rfl xM _ _ _ rfl zzBS w9.z 1 1 [ι v5,ι v9] rfl rfl (cI _ #[ι v5,ι v9] _ _ rfl) zzAU zd zo zd ?_;intro v4 w4 Hr ql Qu;obtain⟨g4,Hz,rfl⟩:=cH Hr;have H4:=zh (Xb.o.app Py.o.1 Py.o.2 HB.o.1 HB.o.2.1 Kx.o Hr ql Qu);clear Hr ql Qu));go_roundg (G-1)
                  case rel=>exact⟨G-1,some g4.a,Hz,l++[(v5,v9)],{x with aQ:=q9,e:=2,wh:=q1+1},rfl,zs,H4.o.1,H4.o.2.1,H4.o.2.2,.inl ⟨⟨q9,(2,q1+1),zo,zo,rfl,zs,JN.o⟩,zx⟩⟩
                  case measure=>have:=HG.o;omega
                 | ok r=>
                  obtain⟨hi,q2⟩:=r;obtain rfl:=AM hi q2 tA;obtain⟨Vs,hvhi⟩:=WD.o v9 q2 tA;rw[tA] at Dy Xk;obtain⟨rfl,_,hq2s⟩:=Dy;dsimp only at Xk m2;rw[HE.o] at m2;by_cases Hf:v9<v5
                  . rw[zP Hf] at Xk
                    have Qf:dN s x.aQ k=.error (3,q):=by rw[Xk];rfl
                    have Yi:=iQ B pb s {x with aQ:=q2} lv w9 H9.o.1.1 3 q zo zo;rw[show fK {x with aQ:=q2} 3 q={x with aQ:=q2,e:=3,wh:=q} by unfold fK;rw[zP HE.o]] at Yi;unfold bH at Yi;have Tj:=zh Yi;have JN:=zh Qf;clear Yi Qf Xk tA AM;go_upto_region 25 with (go_at_call 32;refine Tj.o.mono ?_;rintro e' Ki ⟨rfl,ho⟩;have S8:=zh ho;clear ho)
                    have Xb:=zh (Uk.o.keep S8.o.2 HB.o.1 HB.o.2.1);have Py:=Θ S8.o.1 (ul.o.trans S8.o.2);have Kx:=zh HB.o.2.2.1
                    go_wp2_with (first|(at_builtin;refine bM _ rfl _ _ rfl xM _ _ _ rfl zzBS Ki.z 1 1 [ι v5,ι v9] rfl rfl (cI _ #[ι v5,ι v9] _ _ rfl) zzAU zd zo zd ?_;intro v4 w4 Hr ql Qu;obtain⟨g4,Hz,rfl⟩:=cH Hr;have H4:=zh (Xb.o.app Py.o.1 Py.o.2 HB.o.1 HB.o.2.1 Kx.o Hr ql Qu);clear Hr ql Qu));go_roundg (G-1)
                    case rel=>exact⟨G-1,some g4.a,Hz,l++[(v5,v9)],{x with aQ:=q2,e:=3,wh:=q},rfl,zs,H4.o.1,H4.o.2.1,H4.o.2.2,.inl ⟨⟨q2,(3,q),zo,zo,rfl,zs,JN.o⟩,zx⟩⟩
                    case measure=>have:=HG.o;omega
                  rw[zN Hf] at Xk
                  have Vt:zb5 (l++[(v5,v9)]):=λr hr=>by
                   rcases List.mem_append.1 hr with hr|hr
                   . exact Hl.o.2.2 r hr
                   rw[zMs] at hr
                   rw[hr];exact⟨zo,Iq,hvhi⟩
                  have TE:=zh Vt;have YY:=zh Xk;clear Vt Xk tA AM;have Xb:=zh Uk.o;have Py:=Θ H9.o.1.1 ul.o;have Kx:=zh HB.o.2.2.1
                  go_wp2_with (first|(at_builtin;refine bM _ rfl _ _ rfl xM _ _ _ rfl zzBS w9.z 1 1 [ι v5,ι v9] rfl rfl (cI _ #[ι v5,ι v9] _ _ rfl) zzAU zd zo zd ?_;intro v4 w4 Hr ql Qu;obtain⟨g4,Hz,rfl⟩:=cH Hr;have H4:=zh (Xb.o.app Py.o.1 Py.o.2 HB.o.1 HB.o.2.1 Kx.o Hr ql Qu);clear Hr ql Qu));go_roundg (G-1)
                  case rel=>exact⟨G-1,some g4.a,Hz,l++[(v5,v9)],{x with aQ:=q2},rfl,zs,H4.o.1,H4.o.2.1,H4.o.2.2,.inr ⟨⟨q2,f,zo,zo,rfl,zo,TE.o,zx,YY.o⟩,by show s.size-q2<G-1;omega⟩⟩
                  case measure=>have:=HG.o;omega
               . rw[zN Bc] at PR
                 have:(d==45)=false:=by simp[Bc]
                 have Vt:zb5 (l++[(v5,v5)]):=λr hr=>by
                  rcases List.mem_append.1 hr with hr|hr
                  . exact Hl.o.2.2 r hr
                  rw[zMs] at hr
                  rw[hr];exact⟨Int.le_refl _,Iq,Iq⟩
                 have TE:=zh Vt;have YY:=zh PR;clear Vt PR hpd KN Bc;have Xb:=zh FL.o;have Py:=Θ H6.o.1 Kw.o;have Kx:=zh HB.o.2.2.1
                 go_wp2_with (first|(at_builtin;refine bM _ rfl _ _ rfl xM _ _ _ rfl zzBS w6.z 1 1 [ι v5,ι v5] rfl rfl (cI _ #[ι v5,ι v5] _ _ rfl) zzAU zd zo zd ?_;intro v4 w4 Hr ql Qu;obtain⟨g4,Hz,rfl⟩:=cH Hr;have H4:=zh (Xb.o.app Py.o.1 Py.o.2 HB.o.1 HB.o.2.1 Kx.o Hr ql Qu);clear Hr ql Qu));go_roundg (G-1)
                 case rel=>exact⟨G-1,some g4.a,Hz,l++[(v5,v5)],{x with aQ:=q1},rfl,zs,H4.o.1,H4.o.2.1,H4.o.2.2,.inr ⟨⟨q1,f,zo,zo,rfl,zo,TE.o,zx,YY.o⟩,by show s.size-q1<G-1;omega⟩⟩
                 case measure=>have:=HG.o;omega
  case rest=>
   obtain⟨ao,cap,l,y,rfl,rm,yo,Pg,Jp⟩:=hcut;obtain⟨_,_,d2,_⟩:=yo.cells;have H3:=Λ rm yo Pg;clear rm yo Pg
   rcases Jp with⟨q,er,h1,h2,h3,h4,h5⟩|⟨q,h1,h2,h3,h4,h5,h6⟩
   . have DY:y.e≠0:=by rw[h3];exact h4
     have z0:((y.e:Int)==0)=false:=zx
     have HF:=Ψ h1 h2 h3 h5;clear h1 h2 h3 h4 h5 DY;go_wp2;go_ret;refine⟨_,l,y,rfl,⟨H3.o.2.1,H3.o.2.2⟩,H3.o.1.1,H3.o.1.2,?_,λl' q' hh=> ?_⟩
     . rw[HF.o.2.2.2]
       exact⟨q,HF.o.1,HF.o.2.1,HF.o.2.2.1⟩
     rw[HF.o.2.2.2] at hh;cases hh
   have DY:y.e=0:=by rw[h3];exact HE.o
   rw[DY] at d2;have HF:=Ψ h1 h2 h3 (zAi h4 h6);clear h1 h2 h3 h6 DY;cases nt with
   | false=>
    go_wp2;go_ret;refine⟨_,l,y,rfl,⟨H3.o.2.1,H3.o.2.2⟩,H3.o.1.1,H3.o.1.2,?_,λl' q' hh=> ?_⟩
    . rw[HF.o.2.2.2.2]
      exact⟨HF.o.2.2.1,HF.o.1,HF.o.2.1⟩
    . rw[HF.o.2.2.2.2] at hh
      cases hh;refine⟨nY.refl _,λr hr=> ?_⟩;have h9:=HF.o.2.2.2.1 r hr;rw[eW,eW] at h9;omega
   | true=>
    have RG:=zg8 l ao cap wc H3.o.1.1 HF.o.2.2.2.1 zo;have HWO:=zh RG;clear RG h4;go_upto_region 28 with (go_at_call 156;refine HWO.o.mono ?_;rintro e' w5 ⟨O,v5,rfl,JE,jr,Nc,ER⟩;have H5:=Ψ JE jr Nc ER;clear JE jr Nc ER)
    have Ta:=H3.o.2.1.below H5.o.1.2.2;have pf:=H3.o.2.2.trans (PK.of_below H5.o.1.2.2);have Ha:=zcP HF.o.2.2.2.1;have EL:=zi3 HF.o.2.2.2.1;have M8:O=[]↔jR l=[]:=by
     constructor
     . intro e
       cases hr:jR l with
       | nil=>rfl
       | cons r t=>
        exfalso;have hm:r∈jR l:=by rw[hr];simp
        have hv:=EL r hm;have h9:=(Ha.2 r.1 hv).1 ⟨r,hm,Int.le_refl _,(Ha.1.ne r hm).2.1⟩;obtain⟨q',hq',_⟩:=(H5.o.2.2.1 r.1 hv).2 h9
        grind
     intro e
     cases hr:O with
     | nil=>rfl
     | cons r t=>
      exfalso;have hm:r∈O:=by rw[hr];simp
      obtain⟨z,hv,h8,h7⟩:=H5.o.2.2.2 r hm;have h9:=(H5.o.2.2.1 z hv).1 ⟨r,hm,h8,h7⟩;obtain⟨q',hq',_⟩:=(Ha.2 z hv).2 h9
      grind
    have MT:nY O (jR l):=apart_eq H5.o.2.1 Ha.1 λz hv=>by rw[H5.o.2.2.1 z hv,Ha.2 z hv]
    obtain⟨kt,Xf,rfl⟩:∃ kt Xf,v5=τ kt (I O) Xf:=by
     rcases aY H5.o.1.1 with⟨e,e'⟩|⟨g,cap,e,_⟩
     . grind
     grind
    have NC:w.heap.size<=wc.heap.size:=H3.o.2.2.size;have AZ:=Ψ Ta pf M8 MT;clear Ta pf Ha EL M8 MT;have EM:∀ g,β (Value.slice kt (I O) Xf)=some g->w.t<=g:=λg hg=>zT NC (H5.o.1.2.1 g hg);have jo:=zh EM;clear EM;by_cases hO:O=[]
    . have Yi:=iQ B pb s y lv w5 AZ.o.1 3 k zo HB.o.2.2.2
      have hfy:fK y 3 k={x with aQ:=q+1,e:=3,wh:=k}:=by rw[HF.o.2.2.1];unfold fK;rw[zP HE.o]
      rw[hfy] at Yi;unfold bH at Yi;have Tj:=zh Yi;have zl:(I O:Int)=0:=by rw[hO];rfl
      have Qf:dN s x.aQ k=.error (3,k):=by rw[HF.o.2.2.2.2];unfold xJ;dsimp only;rw[zP rfl,zP (AZ.o.2.2.1.1 hO)]
      have JN:=zh Qf;clear Yi hfy Qf;subst hO;go_wp2_with (first|(go_at_call 32;refine Tj.o.mono ?_;rintro e' w6 ⟨rfl,JE⟩;have H6:=zh JE;clear JE));go_ret;refine⟨_,[],_,rfl,⟨H6.o.1,AZ.o.2.1.trans H6.o.2⟩,zh0 H5.o.1.1 H6.o.2 (λg hg=>⟨by have:=jo.o g hg;have:=HB.o.1;omega,λe=>by have:=jo.o g hg;have:=HB.o.2.1 g e;omega⟩),jo.o,?_,λl' q' hh=> ?_⟩
      . rw[JN.o]
        exact⟨q+1,HF.o.1,HF.o.2.1,rfl⟩
      rw[JN.o] at hh;cases hh
    have zl:((I O:Int)==0)=false:=by
     have:I O≠0:=λe=>hO (List.length_eq_zero_iff.1 e);simp;exact hO
    have Hq:dN s x.aQ k=.ok (jR l,q+1):=by rw[HF.o.2.2.2.2];unfold xJ;dsimp only;rw[zP rfl,zN (λe=>hO (AZ.o.2.2.1.2 e))]
    have QA:=zh Hq;clear Hq hO;go_wp2;go_ret;refine⟨_,O,y,rfl,⟨AZ.o.1,AZ.o.2.1⟩,H5.o.1.1,jo.o,?_,λl' q' hh=> ?_⟩
    . rw[QA.o]
      exact⟨HF.o.2.2.1,HF.o.1,HF.o.2.1⟩
    rw[QA.o] at hh
    cases hh;exact⟨AZ.o.2.2.2,λr hr=>by have:=H5.o.2.1.ne r hr;omega⟩
mutual
inductive cX (N:List Nd):Nat->aL->Prop where
 | place (k:Nat) (d:Nd) (c:θ) (h:N[k]?=some d) (hk:d.k=1) (hn:d.n=1) (hc:nY d.rl c) (hr:∀ r∈d.rl,0<=r.1/\r.1<=1114111/\0<=r.2/\r.2<=1114111):cX N k (.cL c)
 | row (k:Nat) (l:List aL) (h:oA N k l):cX N k (.row l)
 | either (k:Nat) (d:Nd) (x y:aL) (h:N[k]?=some d) (hk:d.k=3) (hn:d.n=min 100 (ndN N d.a+ndN N d.b)) (hx:cX N d.a x) (hy:cX N d.b y):cX N k (.either x y)
 | star (k:Nat) (d:Nd) (t:aL) (h:N[k]?=some d) (hk:d.k=4) (hn:d.n=ndN N d.a) (ht:cX N d.a t):cX N k (.rep t 0 false)
 | plus (k:Nat) (d:Nd) (t:aL) (h:N[k]?=some d) (hk:d.k=5) (hn:d.n=ndN N d.a) (ht:cX N d.a t):cX N k (.rep t 1 false)
 | opt (k:Nat) (d:Nd) (t:aL) (h:N[k]?=some d) (hk:d.k=6) (hn:d.n=ndN N d.a) (ht:cX N d.a t):cX N k (.rep t 0 true)
inductive oA (N:List Nd):Nat->List aL->Prop where
 | nil (k:Nat) (d:Nd) (h:N[k]?=some d) (hk:d.k=0) (hn:d.n=0):oA N k []
 | snoc (k:Nat) (d:Nd) (l:List aL) (t:aL) (h:N[k]?=some d) (hk:d.k=2) (hn:d.n=min 100 (ndN N d.a+ndN N d.b)) (hl:oA N d.a l) (ht:cX N d.b t):oA N k (l++[t])
end
theorem uA (h:N<+:M) (hd:N[k]?=some d):M[k]?=some d:=by
 obtain⟨t,rfl⟩:=h
 grind
theorem qR (h:N[k]?=some d):ndN N k=d.n:=by unfold ndN;grind
mutual
theorem cX.get :∀ {k:Nat} {t:aL},cX N k t->∃ d,N[k]?=some d
 | _,_,.place k d c h _ _ _ _=>⟨d,h⟩
 | _,_,.row k l h=>h.get
 | _,_,.either k d x y h _ _ _ _=>⟨d,h⟩
 | _,_,.star k d t h _ _ _=>⟨d,h⟩
 | _,_,.plus k d t h _ _ _=>⟨d,h⟩
 | _,_,.opt k d t h _ _ _=>⟨d,h⟩
theorem oA.get :∀ {k:Nat} {l:List aL},oA N k l->∃ d,N[k]?=some d
 | _,_,.nil k d h _ _=>⟨d,h⟩
 | _,_,.snoc k d l t h _ _ _ _=>⟨d,h⟩
end
theorem rI (h:N<+:M) (hd:∃ d,N[k]?=some d):ndN M k=ndN N k:=by
 obtain⟨d,hd⟩:=hd;rw[qR hd,qR (uA h hd)]
mutual
theorem cX.mono (hp:N<+:M):∀ {k:Nat} {t:aL},cX N k t->cX M k t
 | _,_,.place k d c h hk hn hc hr=>.place k d c (uA hp h) hk hn hc hr
 | _,_,.row k l h=>.row k l (h.mono hp)
 | _,_,.either k d x y h hk hn hx hy=>.either k d x y (uA hp h) hk (by rw[rI hp hx.get,rI hp hy.get];exact hn) (hx.mono hp) (hy.mono hp)
 | _,_,.star k d t h hk hn ht=>.star k d t (uA hp h) hk zzC9 (ht.mono hp)
 | _,_,.plus k d t h hk hn ht=>.plus k d t (uA hp h) hk zzC9 (ht.mono hp)
 | _,_,.opt k d t h hk hn ht=>.opt k d t (uA hp h) hk zzC9 (ht.mono hp)
theorem oA.mono (hp:N<+:M):∀ {k:Nat} {l:List aL},oA N k l->oA M k l
 | _,_,.nil k d h hk hn=>.nil k d (uA hp h) hk hn
 | _,_,.snoc k d l t h hk hn hl ht=>.snoc k d l t (uA hp h) hk (by rw[rI hp hl.get,rI hp ht.get];exact hn) (hl.mono hp) (ht.mono hp)
end
mutual
theorem cX.places :∀ {k:Nat} {t:aL},cX N k t->(ndN N k:Int)=cE t
 | _,_,.place k d c h hk hn hc hr=>by grind [qR,cE]
 | _,_,.row k l h=>by rw[cE];exact h.places
 | _,_,.either k d x y h hk hn hx hy=>by
  have:=hx.places;have:=hy.places
  grind [qR,cE]
 | _,_,.star k d t h hk hn ht=>by rw[qR h,hn,cE];exact ht.places
 | _,_,.plus k d t h hk hn ht=>by rw[qR h,hn,cE];exact ht.places
 | _,_,.opt k d t h hk hn ht=>by rw[qR h,hn,cE];exact ht.places
theorem oA.places :∀ {k:Nat} {l:List aL},oA N k l->(ndN N k:Int)=iX l 0
 | _,_,.nil k d h hk hn=>by grind [qR,iX]
 | _,_,.snoc k d l t h hk hn hl ht=>by
  have:=hl.places;have:=ht.places
  grind [qR,zbI]
end
section
variable {N:List Nd} {B pb:Nat} {s:η} {x:Pr} {lv:Value} {w:ω}
theorem xZ (N:List Nd) (d:Nd):(N++[d])[I N]?=some d:=by simp
theorem jK (N:List Nd) (d:Nd):N<+:N++[d]:=List.prefix_append _ _
theorem new_ab (ha:∃ d,N[a]?=some d) (hb:∃ d,N[b]?=some d):min 100 (ndN N a+ndN N b)=min 100 (ndN (N++[d]) a+ndN (N++[d]) b):=by
 grind [rI]
theorem ndN_min (h:∀ d∈N,d.n<=100) (a:Nat):min 100 (ndN N a)=ndN N a:=by have:=ndN_le h a;omega
theorem new_a (h:∀ d∈N,d.n<=100) (ha:∃ d,N[a]?=some d):min 100 (ndN N a)=ndN (N++[d]) a:=by
 grind [rI,ndN_min]
theorem mk_nil (N:List Nd):oA (N++[nS N 0 ν [] 0 0]) (I N) []:=.nil _ _ (xZ _ _) rfl rfl
theorem zcw {l:List aL} (hl:oA N a l) (ht:cX N b t):oA (N++[nS N 2 ν [] a b]) (I N) (l++[t]):=
 .snoc _ _ l t (xZ _ _) rfl (new_ab hl.get ht.get) (hl.mono (jK _ _)) (ht.mono (jK _ _))
theorem mk_either {u:aL} (hl:cX N a t) (ht:cX N b u):cX (N++[nS N 3 ν [] a b]) (I N) (.either t u):=
 .either _ _ t u (xZ _ _) rfl (new_ab hl.get ht.get) (hl.mono (jK _ _)) (ht.mono (jK _ _))
theorem mk_star (h:∀ d∈N,d.n<=100) (ht:cX N a t):cX (N++[nS N 4 ν [] a 0]) (I N) (.rep t 0 false):=
 .star _ _ t (xZ _ _) rfl (new_a h ht.get) (ht.mono (jK _ _))
theorem mk_plus (h:∀ d∈N,d.n<=100) (ht:cX N a t):cX (N++[nS N 5 ν [] a 0]) (I N) (.rep t 1 false):=
 .plus _ _ t (xZ _ _) rfl (new_a h ht.get) (ht.mono (jK _ _))
theorem mk_opt (h:∀ d∈N,d.n<=100) (ht:cX N a t):cX (N++[nS N 6 ν [] a 0]) (I N) (.rep t 0 true):=
 .opt _ _ t (xZ _ _) rfl (new_a h ht.get) (ht.mono (jK _ _))
theorem mk_place {r:Value} {rl c:θ} (hc:nY rl c) (hr:∀ r∈rl,0<=r.1/\r.1<=1114111/\0<=r.2/\r.2<=1114111):cX (N++[nS N 1 r rl 0 0]) (I N) (.cL c):=
 .place _ _ c (xZ _ _) rfl rfl hc hr
theorem nil_rng (w:ω) (pb:Nat) (lv:Value) (B:Nat):w.r 196 2 ν (I ([]:θ)) (fW [])/\∀ g,β (Value.slice none 0 0)=some g->B<=g/\g≠pb/\β lv≠some g:=
 ⟨World.ownsRow_nil _ _ _ _,λg hg=>by cases hg⟩
theorem nT (h:gD B pb s x lv w) (k a b:Nat) (hk:k<=6) (ha:2<=k->a<I x.ns) (hb:2<=k->k<=3->b<I x.ns) (hl:I x.ns<=1000000):
 Γ 74 #[bH pb,.agg #[ι k,ν,ι a,ι b,ι 0]] w (zic B pb s x (nS x.ns k ν [] a b) lv w):=
 zhM B pb s x lv w h k a b ν [] hk ha hb (nil_rng w pb lv B) hl
end
def copyT (t:aL) (m:Nat) (n:Int):aL:=
 if n<0 then (if m=0 then .rep t 0 false else .row (ψ (m-1) t++[.rep t 1 false]))
 else .row (ψ m t++ψ (n.toNat-m) (.rep t 0 true))
def GrO (B pb:Nat) (s:η) (x:Pr) (c:Nat) (P:List Nd->Nat->Prop) (lv:Value) (w:ω) (e:Ending) (w':ω):Prop:=
 ∃ (k:Nat) (N:List Nd) (yx:Value),e=ρ (ι k)/\gD B pb s {x with ns:=N} yx w'/\PK pb lv yx w w'/\x.ns<+:N/\I N<=I x.ns+c/\k<I N/\P N k
structure CpS (B pb:Nat) (s:η) (x:Pr) (lv:Value) (w:ω) (a:Nat) (t:aL) (c:Nat) (N:List Nd) (yx:Value) (wr:ω):Prop where
 pr:gD B pb s {x with ns:=N} yx wr
 pk:PK pb lv yx w wr
 pre:x.ns<+:N
 len:I N<=I x.ns+c
 nt:cX N a t
section
variable {B pb:Nat} {s:η} {x:Pr} {lv yx:Value} {w wr:ω} {a c:Nat} {t:aL} {N:List Nd}
theorem cX.lt (h:cX N k t):k<I N:=by obtain⟨d,hd⟩:=h.get;grind
theorem oA.lt {l:List aL} (h:oA N k l):k<I N:=by obtain⟨d,hd⟩:=h.get;grind
theorem CpS.node (h:CpS B pb s x lv w a t c N yx wr) (hc:I x.ns+c<=1000000) (k p q:Nat) (hk:k<=6) (hp:2<=k->p<I N) (hq:2<=k->k<=3->q<I N):
 Γ 74 #[bH pb,.agg #[ι k,ν,ι p,ι q,ι 0]] wr (λe w'=>e=ρ (ι (I N))/\∃ JI,CpS B pb s x lv w a t (c+1) (N++[nS N k ν [] p q]) JI w'):=by
 have:=h.len;refine (nT h.pr k p q hk hp hq zg).mono ?_;rintro e w' ⟨JI,rfl,h1,h2⟩;exact⟨rfl,JI,h1,h.pk.trans h2,h.pre.trans (jK _ _),zg,h.nt.mono (jK _ _)⟩
theorem CpS.o (h:CpS B pb s x lv w a t c N yx wr) {d:Nat} {T:aL} (hd:c<=d) (hk:cX N k T):GrO B pb s x d (λN k=>cX N k T) lv w (ρ (ι k)) wr:=
 ⟨k,N,yx,rfl,h.pr,h.pk,h.pre,by have:=h.len;omega,hk.lt,hk⟩
end
theorem zit (B pb:Nat) (s:η) (x:Pr) (lv:Value) (w:ω) (h:gD B pb s x lv w) (a:Nat) (t:aL) (ht:cX x.ns a t) (m:Nat) (n:Int) (hm:m<=8) (hn:n= -2\/(m:Int)<=n/\n<=8) (hl:I x.ns<=900000):
 Γ 145 #[bH pb,ι a,ι m,ι n] w (GrO B pb s x 17 (λN k=>cX N k (copyT t m n)) lv w):=by
 have C0:CpS B pb s x lv w a t 0 x.ns lv w:=⟨h,PK.refl _ _ _,List.prefix_refl _,bR,ht⟩;have HM:=Λ hm hn hl;have K0:=zh (C0.node zo 0 0 0 zo zo zo);clear C0 h ht hm hn hl;unfold bH at K0 ⊢;go_in;go_upto_region 2 with (go_at_call 74;refine K0.o.mono ?_;rintro e' w1 ⟨rfl,Kr,ho⟩;have C1:=zh ho;clear ho)
 have R1:=zh (mk_nil x.ns);generalize yu:x.ns++[nS x.ns 0 ν [] 0 0]=N1 at C1 R1;obtain⟨k1,Yr⟩:=zE (I x.ns);rw[<-Yr] at R1 ⊢;clear yu Yr
 rcases HM.o.2.1 with rfl|hn
 . have:zH ((-2:Int)<0):=zh zd
   by_cases h0:m=0
   . subst h0
     have K:=zh (C1.o.node zzBj 4 a 0 zo (λ_=>C1.o.nt.lt) (λ_ _=>zo));unfold bH at K;go_wp2_with (first|(go_at_call 74;refine K.o.mono ?_;rintro e' w2 ⟨rfl,JI,ho⟩;have C2:=zh ho;clear ho));go_ret;exact C2.o.o zo (mk_star C1.o.pr.nb C1.o.nt)
   have:((m:Int)==0)=false:=by simp<;>omega
   go_wp2_with fail;go_loopw [9,10] (λs9 XJ wr=>∃ (j k:Nat) (N:List Nd) (yx:Value),XJ=ι ((j:Int)+1)/\s9=ι k/\j+1<=m/\CpS B pb s x lv w a t (1+j) N yx wr/\oA N k (ψ j t)) (λ_ XJ _=>m-(ϑ XJ).toNat)
   case atStart=>exact⟨0,k1,N1,Kr,zs,rfl,zo,C1.o,R1.o⟩
   case round=>
    obtain⟨j,k,N,yx,rfl,rfl,hj,hc,hr⟩:=hrel;have CJ:=zh hc;have RJ:=zh hr;clear hc hr;by_cases Hf:j+1<m
    . have zl:(j:Int)+1<(m:Int):=zo
      have yw:IntKind.i64.wrap ((j:Int)+1+1)=(j:Int)+1+1:=zIn _ zzBj;have K:=zh (CJ.o.node zzBj 2 k a zo (λ_=>RJ.o.lt) (λ_ _=>CJ.o.nt.lt));unfold bH at K;go_wp2_with (first|(go_at_call 74;refine K.o.mono ?_;rintro e' w2 ⟨rfl,JI,ho⟩;have C2:=zh ho;clear ho));go_roundw
      case rel=>exact⟨j+1,I N,_,JI,by go_num,rfl,zo,C2.o,by rw[List.replicate_succ'];exact zcw RJ.o CJ.o.nt⟩
      grind [RowKit.intOf]
    have OC:j+1=m:=zo
    have zl:¬ (j:Int)+1<(m:Int):=zo
    have K:=zh (CJ.o.node zzBj 5 a 0 zo (λ_=>CJ.o.nt.lt) (λ_ _=>zo));unfold bH at K;go_upto_region 10 with (go_at_call 74;refine K.o.mono ?_;rintro e' w2 ⟨rfl,JI,ho⟩;have C2:=zh ho;clear ho)
    have P2:=zh (mk_plus CJ.o.pr.nb CJ.o.nt);have R2:=zh (RJ.o.mono (jK N (nS N 5 ν [] a 0)));generalize Bg:N++[nS N 5 ν [] a 0]=N2 at C2 P2 R2;generalize (I N)=k2 at P2 ⊢;clear Bg;have K:=zh (C2.o.node zzBj 2 k k2 zo (λ_=>R2.o.lt) (λ_ _=>P2.o.lt));unfold bH at K;go_wp2_with (first|(go_at_call 74;refine K.o.mono ?_;rintro e' w3 ⟨rfl,tB,ho⟩;have C3:=zh ho;clear ho));go_ret
    refine C3.o.o zzBj ?_;unfold copyT;rw[zP zd,zN h0,show m-1=j by omega];exact .row _ _ (zcw R2.o P2.o)
 obtain⟨nn,rfl⟩:∃ nn:Nat,n=(nn:Int):=⟨n.toNat,zo⟩
 have Zn:((nn:Int)== -2)=false:=by simp<;>omega
 go_wp2_with fail;go_loopw [9,12] (λs9 s12 wr=>∃ (j k c:Nat) (N:List Nd) (yx:Value),s12=ι (j:Int)/\s9=ι k/\j<=nn/\c<=1+j+(j-m)/\CpS B pb s x lv w a t c N yx wr/\oA N k (ψ (min j m) t++ψ (j-m) (.rep t 0 true))) (λ_ s12 _=>nn-(ϑ s12).toNat)
 case atStart=>exact⟨0,k1,1,N1,Kr,rfl,rfl,zo,zo,C1.o,by simpa using R1.o⟩
 case round=>
  obtain⟨j,k,c,N,yx,rfl,rfl,hj,Vn,hc,hr⟩:=hrel;have CJ:=zh hc;have RJ:=zh hr;clear hc hr;by_cases Hf:j<nn
  . have zl:=zt j nn
    have yw:=mF j;by_cases hjm:m<=j
    . have zm:=zu m j
      have K:=zh (CJ.o.node zzBj 6 a 0 zo (λ_=>CJ.o.nt.lt) (λ_ _=>zo));unfold bH at K;go_upto_region 17 with (go_at_call 74;refine K.o.mono ?_;rintro e' w2 ⟨rfl,JI,ho⟩;have C2:=zh ho;clear ho)
      have P2:=zh (mk_opt CJ.o.pr.nb CJ.o.nt);have R2:=zh (RJ.o.mono (jK N (nS N 6 ν [] a 0)));generalize Bg:N++[nS N 6 ν [] a 0]=N2 at C2 P2 R2;generalize (I N)=k2 at P2 ⊢;clear Bg;have K:=zh (C2.o.node zzBj 2 k k2 zo (λ_=>R2.o.lt) (λ_ _=>P2.o.lt));unfold bH at K;go_wp2_with (first|(go_at_call 74;refine K.o.mono ?_;rintro e' w3 ⟨rfl,tB,ho⟩;have C3:=zh ho;clear ho));go_roundw
      case rel=>exact⟨j+1,I N2,_,_,tB,by go_num,rfl,zo,zo,C3.o,by rw[show min (j+1) m=min j m by omega,show j+1-m=(j-m)+1 by omega,List.replicate_succ',<-List.append_assoc];exact zcw R2.o P2.o⟩
      grind [RowKit.intOf]
    have zm:¬ (m:Int)<=(j:Int):=zo
    have K:=zh (CJ.o.node zzBj 2 k a zo (λ_=>RJ.o.lt) (λ_ _=>CJ.o.nt.lt));unfold bH at K;go_wp2_with (first|(go_at_call 74;refine K.o.mono ?_;rintro e' w2 ⟨rfl,JI,ho⟩;have C2:=zh ho;clear ho));go_roundw
    case rel=>
     refine⟨j+1,I N,_,_,JI,by go_num,rfl,zo,zo,C2.o,?_⟩;have h:=RJ.o;rw[show min j m=j by omega,show j-m=0 by omega,List.replicate_zero,List.append_nil] at h;rw[show min (j+1) m=j+1 by omega,show j+1-m=0 by omega,List.replicate_zero,List.append_nil,List.replicate_succ'];exact zcw h CJ.o.nt
    grind [RowKit.intOf]
  have OC:j=nn:=zo
  have zl:=zn j nn
  go_wp2;go_ret;refine CJ.o.o zo ?_;unfold copyT;rw[zN zo];have h:=RJ.o;rw[show min j m=m by omega,OC] at h;exact .row _ _ (by rw[Int.toNat_natCast];exact h)
