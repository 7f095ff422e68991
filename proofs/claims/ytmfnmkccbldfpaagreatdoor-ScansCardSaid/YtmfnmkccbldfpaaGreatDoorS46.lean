/- Part of a proof. No condition. -/
import Derived.Test.YtmfnmkccbldfpaaGreatDoorS45
import Derived.Test.YtmfnmkccbldfpaaGreatDoorS23
set_option linter.unusedVariables false
set_option linter.unusedSimpArgs false
set_option maxRecDepth 100000
set_option maxHeartbeats 40000000
namespace Go.Proofs.YtmfnmkccbldfpaaGreatDoor
open Go.RowKit Go.Lib Tryz
theorem zzB0 {p:Prop} (h:p:=by
 go_wp2;refine bodyPost_ret (v:=.tuple #[.pointer none,.int .i64 9]) (by simp[results,results59,go_sem]) rfl ?_;exact⟨rfl,rfl⟩):p:=h
theorem zzBg {p:Prop} (h:p:=by simp[results,results23,go_sem,z0,z1,z2,z3,z4]):p:=h
theorem zzBX {p:Prop} (h:p:=by
 refine bodyPost_ret (v:=.tuple #[.int .i64 (dU T s X:Nat),.int .i64 X.long,.int .i64 X.rU]) (by simp[results,results49,go_sem]) rfl ?_;exact⟨rfl,bI qz.o QV.o qz.o.size⟩):p:=h
theorem zzAO {p:Prop} (h:p:=by
 go_wp2_with (go_at_call 94;refine (FU.o _).mono ?_;rintro e w5 ⟨rfl,Qn⟩;have Y7:=zh Qn;clear Qn);go_roundw
 case rel=>exact⟨k+1,by go_num,by rw[HE.o];rfl,zo,bI qz.o Y7.o qz.o.size⟩
 case measure=>exact zY):p:=h
variable {k n m tb rb:Nat} {T:dX} {w:ω}
theorem zgh (s:η) (p i:Nat):bL (ε s p s.size) i=bL s (p+i):=by
 unfold bL;rw[zgw]
theorem waits_any (s:η) (h0:0<s.size) (hz:s.size<1000000) (w:ω):
 Γ 51 #[γ s] w λe w'=>e=ρ (φ (stS 0 55295 s||stS 57344 1114111 s))/\w.u w':=by
 have HA:=zh (λlo hi w=>zdP lo hi s h0 hz w);obtain⟨a,ha⟩:=zE (stS 0 55295 s);obtain⟨b,hb⟩:=zE (stS 57344 1114111 s);rw[<-ha,<-hb];have E1:=zh ha.symm;have E2:=zh hb.symm;clear ha hb;go_in;cases a with
 | true=>
  go_wp2_with (go_at_call 94;refine (HA.o _ _ _).mono ?_;rintro e w1 ⟨rfl,Hk⟩;rw[E1.o]);go_ret;exact⟨rfl,Hk⟩
 | false=>
  go_wp2_with (go_at_call 94;refine (HA.o _ _ _).mono ?_;rintro e w1 ⟨rfl,Hk⟩;first|rw[E1.o]|rw[E2.o]);go_ret;exact⟨zs,bI zzBx zzBx (Below.size zzBx)⟩
structure RV (w:ω) (tb n m:Nat) (T:dX) (gC cC gG cG:Nat):Prop where
 c3:w.v tb 3 (σ gC m cC)
 c5:w.v tb 5 (σ gG n cG)
 lt:tb<w.t
 lC:gC<w.t
 lG:gG<w.t
 cut:∀ k,k<m->w.i gC k (χ T.cU k 0)
 row:∀ i,i<n->∃ gu cu,gu<w.heap.size/\w.v gG i (σ gu m cu)/\∀ k,k<m->w.i gu k (toO T i k)
section
variable {w w':ω} {tb n m gC cC gG cG R:Nat} {T:dX} {D:TD} {S:TS}
theorem RV.below (h:RV w tb n m T gC cC gG cG) (hb:w.u w'):RV w' tb n m T gC cC gG cG:=
 ⟨(aG hb _ h.lt).trans h.c3,(aG hb _ h.lt).trans h.c5,zLd h.lt hb.size,zLd h.lC hb.size,zLd h.lG hb.size,λk hk=>(aG hb _ h.lC).trans (h.cut k hk),λi hi=>by
   obtain⟨gu,cu,h1,h2,h3⟩:=h.row i hi;exact⟨gu,cu,zLd h1 hb.size,(aG hb _ h.lG).trans h2,λk hk=>(aG hb _ h1).trans (h3 k hk)⟩⟩
theorem rv_of (h:gW tb D S w) (hH:BndH D T n m) (hm:0<m):∃ gC cC gG cG,RV w tb n m T gC cC gG cG:=by
 obtain⟨_,_,_,c3,_,c5,_⟩:=h.cells;obtain⟨gC,cC,eC,lC,_⟩:=rE h.crow (i:=0) (by rw[hH.nm];exact hm);have Cj:w.r 24 1 S.vG n S.gv:=by have:=h.grow;rwa [hH.ng] at this
 obtain⟨gG,cG,_,eG,lG,_,_⟩:=rB Cj (i:=0) hH.n1.1;rw[eC,hH.nm] at c3;rw[eG] at c5;refine⟨gC,cC,gG,cG,c3,c5,h.lt,lC,lG,λk hk=> ?_,λi hi=> ?_⟩
 . obtain⟨g,c,e,_,hc⟩:=rE h.crow (i:=k) (by rw[hH.nm];exact hk)
   rw[eC] at e;cases e;rw[hc,hH.c]
 obtain⟨g,c,u,e,_,hu,hc⟩:=rB Cj hi
 rw[eG] at e;cases e;have ox:=h.gli i u hu;have Hb:I (χ D.gO i [])=m:=hH.rows _ (by
  rw[zLf,zLe (by rw[hH.ng];exact hi)];exact List.getElem_mem _)
 obtain⟨gu,cu,eu,lu,_⟩:=rE ox (i:=0) (by rw[Hb];exact hm);rw[Hb] at eu;rw[eu] at hc;refine⟨gu,cu,lu,hc,λk hk=> ?_⟩;obtain⟨g2,c2,e2,_,h2⟩:=rE ox (i:=k) (by rw[Hb];exact hk);rw[Hb,eu] at e2;cases e2;rw[h2];unfold toO;have e:∀ (l:List Int),I l=m->χ l k 0=χ l k (-1):=λl hl=>by
  rw[zLf,zLf,zLe zo];rfl
 rw[hH.g,e _ Hb]
theorem cut_uniq {cU:List Int} {c:Int} (hr:cU.Pairwise (· < ·)) (hh:cU.head?=some 0) (hc:0<=c) (hk:k<I cU) (h1:k=0\/χ cU k 0<=c) (h2:k+1<I cU->c<χ cU (k+1) 0):nL cU c=k:=by
 obtain⟨a,b,d⟩:=xK hr hh hc;have mono:∀ i j,i<j->j<I cU->χ cU i 0<χ cU j 0:=λi j KY hj=>by
  rw[zLf,zLf,zLe zo,zLe hj];exact List.pairwise_iff_getElem.1 hr i j zo hj KY
 have le:∀ i j,i<=j->j<I cU->χ cU i 0<=χ cU j 0:=λi j KY hj=>by
  rcases zLg i j with h|h
  . have:=mono i j h hj;omega
  rw[show i=j by omega];exact Int.le_refl _
 generalize nL cU c=j at*
 rcases Nat.lt_trichotomy j k with h|h|h
 . have:=d zo
   have:=le (j+1) k h hk
   rcases h1 with h1|h1<;>omega
 . exact h
 have:=h2 zo
 have:=le (k+1) j h a;omega
theorem rgoes_any (h:RV w tb n m T gC cC gG cG) (hT:yV T R) (hm:I T.cU=m) (hm5:0<m/\m<=50000) (set:Nat) (hs:set<n) (c:Int) (hc:0<=c):
 Γ 91 #[bH tb,ι set,ι c] w λe w'=>e=ρ (ι (fQ T set c))/\w'=w:=by
 obtain⟨c3,c5,lt,lC,lG,hcut,Hb⟩:=h;have Cz:=λk=>cut_uniq (k:=k) hT.rise hT.head hc;rw[hm] at Cz;obtain⟨gu,cu,lu,cu1,GE⟩:=Hb set hs;have HC:=zh hcut;have HG:=zh GE;have:=zt set n
 clear hcut Hb GE hm hT;unfold bH;go_in;go_wp2;go_loopw [7] (λs7 wr=>∃ k:Nat,s7=ι k/\k<m/\(k=0\/χ T.cU k 0<=c)/\wr=w) (λs7 _=>m-(ϑ s7).toNat)
 case atStart=>exact⟨0,rfl,hm5.1,.inl rfl,rfl⟩
 case round=>
  obtain⟨k,rfl,hk,YQ,rfl⟩:=hrel;have:=mF k;have fin:(k+1<m->c<χ T.cU (k+1) 0)->wr.i gu k (fQ T set c):=λh2=>by
   rw[HG.o k hk];unfold fQ;rw[Cz k hk YQ h2];rfl
  have:=zt k m
  by_cases h1:k+1<m
  . have z1:(k:Int)+1<(m:Int):=zo
    have ck:=HC.o (k+1) h1;have HCK:zH (∀ z,z=χ T.cU (k+1) 0->z<=c->χ T.cU (k+1) 0<=c):=zh λz h1 h2=>by rw[<-h1];exact h2
    obtain⟨c1,Yg⟩:=zE (χ T.cU (k+1) 0);rw[<-Yg] at ck fin;have wC:=zh Yg;clear Yg;by_cases h2:c1<=c
    . have HN:=zh (HCK.o c1 wC.o h2)
      go_wp2;go_roundw
      case rel=>exact⟨k+1,by go_num,h1,.inr HN.o,trivial⟩
      case measure=>exact zY
    have cf:=fin (λ_=>zo)
    exact zzCA
  have z1:¬ (k:Int)+1<(m:Int):=zo
  have cf:=fin (λh=>absurd h h1);exact zzCA
end
theorem st_pre {lo hi:Int} {s:η} (hn:1<=n) (ke:n<=3) (h:n<=s.size):stS lo hi (ε s 0 n)=jL lo hi n (bL s 0) (bL s 1) (bL s 2):=by
 unfold stS;rw[fS s n h,iV s n 0 h zo]
 rcases (by omega:n=1\/n=2\/n=3) with rfl|rfl|rfl
 . simp[jL,iP]
 . rw[iV s 2 1 h zo];simp[jL,iP]
 rw[iV s 3 1 h zo,iV s 3 2 h zo]
theorem part_of {set b0 b1 b2:Nat} (hS:SurT T) (h0:b0<256) (h1:b1<256) (h2:b2<256) (hn:n<=3) (hm:n<=m) (hc:∀ j,1<=j->j<=n->canR T set j b0 b1 b2=true) (he:n=3\/m<=n\/canR T set (n+1) b0 b1 b2=false):lZ T set m b0 b1 b2=n:=by
 have hp:∀ j,1<=j->j<=3->gK T set j m b0 b1 b2=(decide (j<=m)&&canR T set j b0 b1 b2):=λj a b=>can_part hS zo b h0 h1 h2;have ok:∀ j,1<=j->j<=n->gK T set j m b0 b1 b2=true:=λj a b=>by rw[hp j a zo,hc j a b,decide_eq_true zo];rfl
 have no:n<3->¬ gK T set (n+1) m b0 b1 b2=true:=λh=>by
  rw[hp (n+1) zo zo]
  rcases he with he|he|he
  . omega
  . rw[decide_eq_false zo];simp
  rw[he];simp
 unfold lZ
 rcases (by omega:n=0\/n=1\/n=2\/n=3) with rfl|rfl|rfl|rfl
 . rw[zN (no zo)]
 . rw[zP (ok 1 zo zo),zN (no zo)]
 . rw[zP (ok 1 zo zo),zP (ok 2 zo zo),zN (no zo)]
 rw[zP (ok 1 zo zo),zP (ok 2 zo zo),zP (ok 3 zo zo)]
def canK (T:dX) (set n b0 b1 b2 k:Nat):Bool:=(List.range k).any (canAt T set n b0 b1 b2)
theorem canK_succ {set b0 b1 b2:Nat}:canK T set n b0 b1 b2 (k+1)=(canK T set n b0 b1 b2 k||canAt T set n b0 b1 b2 k):=by
 unfold canK;rw[List.range_succ,List.any_append];simp
theorem zgf {gC cC gG cG R:Nat} (h:RV w tb n m T gC cC gG cG) (hT:yV T R) (hS:SurT T) (hm:I T.cU=m) (hm5:0<m/\m<=50000) (hn:I T.gO=n) (jp:∀ c∈T.cU,0<=c/\c<=1114111) (set:Nat) (hs:set<n) (s:η) (hz:s.size<1000000):
 Γ 92 #[bH tb,ι set,γ s] w λe w'=>e=ρ (ι (lZ T set s.size (bL s 0) (bL s 1) (bL s 2):Nat))/\w.u w':=by
 have Qh:I (χ T.gO set [])=m:=by
  rw[zLf,zLe zo];exact (hT.rows _ (List.getElem_mem _)).trans hm
 have MR:∀ j,canR T set j (bL s 0) (bL s 1) (bL s 2)=canK T set j (bL s 0) (bL s 1) (bL s 2) m:=λj=>by unfold canR canK;rw[Qh]
 have wD:=zh MR;have ld:=λk (a:k<=3) (b:k<=s.size)=>part_of (n:=k) (m:=s.size) (set:=set) hS (eB s 0) (eB s 1) (eB s 2) a b;have Ju:=zh ld;have HR:=zh h;have Vn:∀ k,k<m->0<=χ T.cU k 0/\χ T.cU k 0<=1114111:=λk hk=>jp _ (by
  rw[zLf,zLe zo];exact List.getElem_mem _)
 have Lq:=zh Vn;have YY:=zh hm;have:=zt set n
 have YF:=zh hs;obtain⟨Z,hZ⟩:=zE (lZ T set s.size (bL s 0) (bL s 1) (bL s 2));rw[<-hZ];have HZ:=zh hZ;clear h hT hS hm hn Qh MR ld Vn jp hs hZ;unfold bH;go_in;go_wp2;go_loopw [7,8] (λs7 s8 wr=>∃ q p:Nat,p=q+1/\s8=ι p/\s7=ι q/\q<=3/\q<=s.size/\(∀ j,1<=j->j<=q->canR T set j (bL s 0) (bL s 1) (bL s 2)=true)/\w.u wr) (λ_ s8 _=>4-(ϑ s8).toNat)
 case atStart=>exact⟨0,1,rfl,rfl,rfl,zo,zo,λj a b=>zo,iM⟩
 case round=>
  obtain⟨q,p,hp,rfl,rfl,EX,VR,hq,YK⟩:=hrel;have HQ:=zh hq;have qz:=zh YK;clear hq YK;have:=mF p;by_cases h3:q=3
  . subst h3
    have e:Z=3:=HZ.o.trans (Ju.o 3 zo VR HQ.o (.inl rfl));subst e;have z3:¬ (p:Int)<=3:=zo
    clear hp;go_wp2;go_ret;exact⟨rfl,qz.o⟩
  have HP:=zh hp;have:1<=p/\p<=3/\q<=p:=zo
  clear hp h3;have z3:(p:Int)<=3:=zo
  by_cases Qq:p<=s.size
  . have zp:=zu p s.size
    have:(0:Int)<=(p:Int):=zo
    have Hl:=zh (λlo hi w=>zdP lo hi (ε s 0 p) (by rw[fS s p Qq];omega) (by rw[fS s p Qq];omega) w);have FT:=zh (λlo hi=>st_pre (lo:=lo) (hi:=hi) (s:=s) (n:=p) zo zo Qq);go_wp2_with fail;go_loopw [9,10] (λs9 XJ wr2=>∃ k:Nat,XJ=ι k/\s9=φ (canK T set p (bL s 0) (bL s 1) (bL s 2) k)/\k<=m/\w.u wr2) (λ_ XJ _=>m-(ϑ XJ).toNat)
    case atStart=>exact⟨0,rfl,rfl,zo,qz.o⟩
    case round=>
     clear qz;obtain⟨k,rfl,rfl,hk,YK⟩:=hrel;have qz:=zh YK;clear YK;obtain⟨c3,c5,lt,lC,lG,hcut,Hb⟩:=HR.o.below qz.o;have:=mF k;have Qo:=zh (canK_succ (T:=T) (set:=set) (n:=p) (b0:=bL s 0) (b1:=bL s 1) (b2:=bL s 2) (k:=k));by_cases pg:k<m
     . have zk:=zt k m
       obtain⟨gu,cu,lu,cu1,GE⟩:=Hb set YF.o;have:=GE k pg;have:=hcut k pg;have MQ:canAt T set p (bL s 0) (bL s 1) (bL s 2) k=(decide (0<=toO T set k)&&jL (χ T.cU k 0) (hiT T k) p (bL s 0) (bL s 1) (bL s 2)):=rfl;have R5:=zh MQ;generalize canK T set p (bL s 0) (bL s 1) (bL s 2) k=bk at Qo ⊢;by_cases XH:toO T set k<0
       . have HE:zH (canK T set p (bL s 0) (bL s 1) (bL s 2) (k+1)=bk):=zh (by rw[Qo.o,R5.o,decide_eq_false zo];simp)
         clear hcut Hb GE MQ Qo R5;generalize toO T set k=tt at*;go_wp2_with fail;go_roundw
         case rel=>exact⟨k+1,by go_num,by rw[HE.o],zo,qz.o⟩
         case measure=>exact zY
       have HE:zH (canK T set p (bL s 0) (bL s 1) (bL s 2) (k+1)=(bk||stS (χ T.cU k 0) (hiT T k) (ε s 0 p))):=zh (by rw[Qo.o,R5.o,decide_eq_true zo,Bool.true_and,FT.o])
       have FU:=zh (Hl.o (χ T.cU k 0) (hiT T k));generalize stS (χ T.cU k 0) (hiT T k) (ε s 0 p)=sv at HE FU;have:¬ toO T set k<0:=XH;clear Hb GE MQ Qo R5 XH;generalize toO T set k=tt at*;by_cases Yr:k+1<m
       . have z1:(k:Int)+1<(m:Int):=zo
         have:=hcut (k+1) Yr;have jp:=Lq.o (k+1) Yr;rw[show hiT T k=χ T.cU (k+1) 0-1 from zP (by rw[YY.o];exact Yr)] at FU;have:=lM (n:=χ T.cU (k+1) 0-1);clear hcut;generalize T.cU.getD (k+1) 0=c1 at*;generalize T.cU.getD k 0=c0 at*;cases bk with
         | true=>
          exact zzAO
         | false=>
          exact zzAO
       have z1:¬ (k:Int)+1<(m:Int):=zo
       rw[show hiT T k=1114111 from zN (by rw[YY.o];exact Yr)] at FU;clear hcut;generalize T.cU.getD k 0=c0 at*;cases bk with
       | true=>
        exact zzAO
       | false=>
        exact zzAO
     have zk:=zn k m
     obtain rfl:k=m:=by omega
     have hc:=wD.o p;clear hcut Hb Qo;cases hb:canK T set p (bL s 0) (bL s 1) (bL s 2) k with
     | true=>
      rw[hb] at hc;have HC:=zh hc;clear hc hb;go_wp2;go_roundw
      case rel=>exact⟨p,p+1,rfl,by go_num,rfl,zo,zo,λj a b=>by
       rcases zLg j p with h|h
       . exact HQ.o j a (by have:=HP.o;omega)
       . exact (show p=j by omega)▸HC.o,qz.o⟩
      case measure=>exact zY
     | false=>
      rw[hb] at hc;have e:Z=q:=HZ.o.trans (Ju.o q EX VR HQ.o (.inr (.inr (by rw[<-HP.o];exact hc))));subst e;clear hc hb;go_wp2;go_ret;exact⟨rfl,qz.o⟩
  have zp:¬ (p:Int)<=(s.size:Int):=zo
  have e:Z=q:=HZ.o.trans (Ju.o q EX VR HQ.o (.inr (.inl (by have:=HP.o;omega))));subst e;go_wp2;go_ret;exact⟨rfl,qz.o⟩
theorem rrun_any {R:Nat} {D:TD} {S:TS} (h:gW tb D S w) (hH:BndH D T n m) (hT:yV T R) (hS:SurT T) (hm:I T.cU=m) (hm5:0<m/\m<=50000) (hn:I T.gO=n) (jp:∀ c∈T.cU,0<=c/\c<=1114111) (s:η) (hz:s.size<1000000):
 Γ 49 #[bH tb,γ s] w λe w'=>e=ρ (ϕ #[ι (dU T s (dK T s (s.size+1) kY):Nat),ι (dK T s (s.size+1) kY).long,ι (dK T s (s.size+1) kY).rU])/\w.u w':=by
 obtain⟨gC,cC,gG,cG,hV⟩:=rv_of h hH hm5.1;have B4:zH (∀ p,p<=s.size->∀ w,Γ 50 #[γ (ε s p s.size)] w λe w'=>e=ρ (ϕ #[ι (bT s p).1,ι ((bT s p).2:Nat)])/\w'=w):=zh λp hp w=>by
  have h:=zcD (ε s p s.size) w;rwa [zbY s p hp] at h
 have VW:zH (∀ wr,w.u wr->∀ set,set<n->∀ c,0<=c->Γ 91 #[π tb,ι set,ι c] wr λe w'=>e=ρ (ι (fQ T set c))/\w'=wr):=zh λwr hb set hs c hc=>rgoes_any (hV.below hb) hT hm hm5 set hs c hc
 have JL:zH (∀ wr,w.u wr->∀ set,set<n->∀ p,p<=s.size->Γ 92 #[π tb,ι set,γ (ε s p s.size)] wr λe w'=>e=ρ (ι (qT T s set p:Nat))/\wr.u w'):=zh λwr hb set hs p hp=>by
  have Hv:(ε s p s.size).size=s.size-p:=zs
  have h:=zgf (hV.below hb) hT hS hm hm5 hn jp set hs (ε s p s.size) zo;rw[Hv,zgh,zgh,zgh] at h;exact h
 have Uj:zH (∀ wr,w.u wr->∀ i,i<n->Γ 80 #[π tb,ι i] wr λe w'=>e=ρ (ι (χ T.rU i (-1)))/\wr.u w'):=zh λwr hb i hi=>by
  obtain⟨r1,r2⟩:=hH.s1 i hi;have h:=zcQ tb D S wr (h.below hb) i (by rw[hH.ns];exact hi) r1 r2;have Ho:i<I T.rU:=by rw[hT.rules,hn];exact hi
  have e:ruO T (i:Int)=χ T.rU i (-1):=by
   unfold ruO;rw[Int.toNat_natCast,zLf,zLf,zLe Ho];rfl
  rw[hH.rU i hi,e] at h;exact h
 have HNS:zH (∀ set c,0<=fQ T set c->(fQ T set c).toNat<n):=zh λset c h=>by rw[<-hn];exact zfE hT h
 have Km:zH (∀ i,i<n-> -1<=χ T.rU i (-1)/\χ T.rU i (-1)<=1000):=zh λi hi=>by
  have Ho:i<I T.rU:=by rw[hT.rules,hn];exact hi
  have h:=hH.rl i hi;unfold ruO at h;rw[Int.toNat_natCast,zLf,zLe Ho] at h;rw[zLf,zLe Ho];exact h
 have uu:=zh hH.n1;obtain⟨X,hX⟩:=zE (dK T s (s.size+1) kY);rw[<-hX];have HX:=zh hX;clear h hH hT hS hm hm5 hn jp hV hX;unfold bH;go_in;go_wp2_with fail;go_loopg [7,8,9,10] (s.size+1) (λgh s7 s8 s9 XJ wr=>∃ (x:vD) (f:Nat),f=gh/\s7=ι x.set/\s8=ι x.alive/\s9=ι x.long/\XJ=ι x.rU/\x.alive<=s.size/\x.set<n/\dK T s f x=X/\s.size<f+x.alive/\w.u wr)
 case atStart=>exact⟨kY,s.size+1,rfl,rfl,rfl,rfl,rfl,rC,uu.o.1,HX.o.symm,by show s.size<s.size+1+0;omega,iM⟩
 case round=>
  obtain⟨x,f,rfl,rfl,rfl,rfl,rfl,X5,Ht,Qv,X7,YK⟩:=hrel;obtain⟨g,rfl⟩:∃ g,f=g+1:=⟨f-1,zo⟩;have Kz:=zh Qv;have qz:=zh YK;have ve:=zh X5;have HO:=zh (B4.o x.alive X5);have qo:=nC s x.alive X5;have D9:=zh (ziy (T:=T) (s:=s) (set:=x.set) (p:=x.alive));have HB:=zh (λwr hb=>JL.o wr hb x.set Ht x.alive X5);have:(0:Int)<=(x.alive:Int):=zo
  have:=zu x.alive s.size
  have E7:dC T s x.set x.alive=false->X=x/\IntKind.i64.wrap ((x.alive:Int)+(qT T s x.set x.alive:Int))=(dU T s x:Int):=λh=>by
   refine⟨by rw[<-Kz.o,za4 _ h],?_⟩;have h1:=zay (T:=T) (s:=s) (x:=x) ve.o;unfold dU at h1 ⊢;rw[lM];push_cast;rfl
  have Un:=zh E7;have LE:=zh qo;have QI:∀ u,dC T s x.set x.alive=true->u=(fQ T x.set (bT s x.alive).1).toNat->dK T s g ⟨u,x.alive+(bT s x.alive).2,if 0<=χ T.rU u (-1) then x.alive+(bT s x.alive).2 else x.long,if 0<=χ T.rU u (-1) then χ T.rU u (-1) else x.rU⟩=X:=λu hg hu=>by
   have h1:=Kz.o;rw[dK,zP hg] at h1;have h2:=zgN (D9.o.1 hg).1;rw[<-h1];congr 1;rw[h2.1] at hu;unfold nB;rw[<-hu,h2.2.1];split
   . rfl
   rfl
  have KA:=zh QI;have xu:dC T s x.set x.alive=true->1<=(bT s x.alive).2:=λhg=>by
   have h2:=zgN (D9.o.1 hg).1;have:=lD hg;omega
  have YX:=zh xu;have XS:(bT s x.alive).1<0\/(0<=(bT s x.alive).1/\fQ T x.set (bT s x.alive).1<0)\/dC T s x.set x.alive=true:=by
   rcases Int.lt_or_le (bT s x.alive).1 0 with h|h
   . exact .inl h
   rcases Int.lt_or_le (fQ T x.set (bT s x.alive).1) 0 with h2|h2
   . exact .inr (.inl ⟨h,h2⟩)
   exact .inr (.inr (D9.o.2 ⟨h,h2⟩))
  have Lw:=zh (λwr hb c hc=>VW.o wr hb x.set Ht c hc);have IG:=zh (HNS.o x.set (bT s x.alive).1);clear Qv YK X5 qo E7 QI xu Ht;generalize hc:(bT s x.alive).1=c at*;generalize (bT s x.alive).2=k at*;have:=zh hc;clear hc
  rcases XS with h1|⟨h1,h2⟩|hg
  . have xw:dC T s x.set x.alive=false:=Bool.eq_false_iff.2 (λh=>by have:=(D9.o.1 h).1;omega)
    obtain⟨e1,e2⟩:=Un.o xw;subst e1;clear xw Kz KA YX Lw IG HX;go_wp2_with (first|(go_at_call 50;refine (HO.o _).mono ?_;rintro e w1 ⟨rfl,rfl⟩)|(go_at_call 92;refine (HB.o _ qz.o).mono ?_;rintro e w2 ⟨rfl,Hm⟩;have QV:=zh Hm;clear Hm));exact zzBX
  . have xw:dC T s x.set x.alive=false:=Bool.eq_false_iff.2 (λh=>by have:=(D9.o.1 h).2;omega)
    obtain⟨e1,e2⟩:=Un.o xw;subst e1;have Lv:=zh (λwr hb=>Lw.o wr hb c h1);clear xw Kz KA YX Lw IG HX D9;generalize fQ T X.set c=tt at*;go_wp2_with (first|(go_at_call 50;refine (HO.o _).mono ?_;rintro e w1 ⟨rfl,rfl⟩)|(go_at_call 91;refine (Lv.o _ qz.o).mono ?_;rintro e w2 ⟨rfl,rfl⟩)|(go_at_call 92;refine (HB.o _ qz.o).mono ?_;rintro e w2 ⟨rfl,Hm⟩;have QV:=zh Hm;clear Hm))
    exact zzBX
  obtain⟨h1,h2⟩:=D9.o.1 hg
  have Lv:=zh (λwr hb=>Lw.o wr hb c h1);obtain⟨u,hu⟩:∃ u:Nat,fQ T x.set c=(u:Int):=Int.eq_ofNat_of_zero_le h2;have Cz:=IG.o h2;rw[hu,Int.toNat_natCast] at Cz;rw[hu] at Lv;have TA:=zh (λwr hb=>Uj.o wr hb u Cz);have Hh:=KA.o u hg (by rw[hu,Int.toNat_natCast]);have:=YX.o hg;have qo:=LE.o;have:=Km.o u Cz;have Hl:=zh Hh;have Q4:=Θ Cz X7;have:=lM (n:=(x.alive:Int)+(k:Int))
  clear Hh hg hu h2 Kz KA YX Lw IG HX D9 Un Cz;generalize T.rU.getD u (-1)=ru at*;by_cases hr:0<=ru
  . rw[zP hr,zP hr] at Hl
    go_wp2_with (first|(go_at_call 50;refine (HO.o _).mono ?_;rintro e w1 ⟨rfl,rfl⟩)|(go_at_call 91;refine (Lv.o _ qz.o).mono ?_;rintro e w2 ⟨rfl,rfl⟩)|(go_at_call 80;refine (TA.o _ qz.o).mono ?_;rintro e w2 ⟨rfl,Hm⟩;have QV:=zh Hm;clear Hm));go_roundg g
    case rel=>exact⟨⟨u,x.alive+k,x.alive+k,ru⟩,g,rfl,rfl,by go_num,by go_num,rfl,qo.1,Q4.o.1,Hl.o,by have:=Q4.o.2;show s.size<g+(x.alive+k);omega,bI qz.o QV.o qz.o.size⟩
    case measure=>omega
  rw[zN hr,zN hr] at Hl
  go_wp2_with (first|(go_at_call 50;refine (HO.o _).mono ?_;rintro e w1 ⟨rfl,rfl⟩)|(go_at_call 91;refine (Lv.o _ qz.o).mono ?_;rintro e w2 ⟨rfl,rfl⟩)|(go_at_call 80;refine (TA.o _ qz.o).mono ?_;rintro e w2 ⟨rfl,Hm⟩;have QV:=zh Hm;clear Hm));go_roundg g
  case rel=>exact⟨⟨u,x.alive+k,x.long,x.rU⟩,g,rfl,rfl,by go_num,rfl,rfl,qo.1,Q4.o.1,Hl.o,by have:=Q4.o.2;show s.size<g+(x.alive+k);omega,bI qz.o QV.o qz.o.size⟩
  case measure=>omega
def rD (w:ω) (rb tb:Nat) (x:uU):Prop:=w.h rb #[bH tb,ι x.C,γ x.X,ι x.why,ι x.aQ,ι x.line,ι x.col,ι x.e] 137
theorem newRef_no (tb why:Nat) (c:Int) (x:η) (hc:c<4\/100000<c) (w:ω):Γ 59 #[bH tb,γ x,ι why,ι c] w λe w'=>e=ρ (ϕ #[Φ none,ι 9])/\w'=w:=by
 unfold bH;by_cases h:c<4
 . go_in
   exact zzB0
 have:100000<c:=zo
 go_in;exact zzB0
theorem ziN (tb why c:Nat) (x:η) (h4:4<=c) (hm:c<=100000) (w:ω):Γ 59 #[bH tb,γ x,ι why,ι c] w λe w'=>e=ρ (ϕ #[bH w.t,ι 0])/\w.u w'/\rD w' w.t tb ⟨x,why,c,0,1,1,0⟩:=by
 unfold bH;have:¬ (c:Int)<4:=zo
 have:¬ (100000:Int)<(c:Int):=zo
 go_in;go_wp2;refine bodyPost_ret (v:=ϕ #[bH w.t,ι 0]) (by simp[results,results59,go_sem,bH]) rfl ?_;exact⟨rfl,Ξ w _,bA _ _ _ rfl⟩
theorem one_ten {s:η} {p:Nat} (h:p<s.size):((bT s p).1=10↔(δ s p).1=10)/\(bT s p).2=(δ s p).2:=by
 unfold bT;rw[zP h];by_cases hb:(δ s p).1=65533/\(δ s p).2=1
 . rw[zP hb];dsimp only;omega
 rw[zN hb];dsimp only;omega
structure MvS (w:ω) (rb tb:Nat) (x:uU) (s:η) (p:Nat) (ln cl:Int) (wr:ω):Prop where
 sc:rD wr rb tb {x with aQ:=x.aQ+s.size,line:=ln,col:=cl}
 gr:w.g wr rb
 ln:0<=ln/\ln<=1000000000+p
 cl:0<=cl/\cl<=1000000000+p
theorem move_any (w:ω) (rb tb:Nat) (x:uU) (h:rD w rb tb x) (s:η) (hz:s.size<1000000) (cd:x.aQ<=1000000) (V8:0<=x.line/\x.line<=1000000000) (ym:0<=x.col/\x.col<=1000000000):
 Γ 52 #[bH rb,γ s] w λe w'=>e=ρ (ϕ #[])/\w.g w' rb/\rD w' rb tb {x with aQ:=x.aQ+s.size,line:=(dW s (s.size+1) 0 x.line x.col).1,col:=(dW s (s.size+1) 0 x.line x.col).2}:=by
 have c4:=zq 4 h;have f4:=zF 4 h;have lb:=aA h;have DW:=lM (n:=(x.aQ:Int)+(s.size:Int));have H:=zh h;obtain⟨R,hR⟩:=zE (dW s (s.size+1) 0 x.line x.col);rw[<-hR];have HR:=zh hR;have vn:=Θ V8 ym;clear h hR V8 ym;unfold bH;go_in;go_wp2_with fail
 have h1:MvS w rb tb x s 0 x.line x.col (ς w (rb.p 4) (ι ((x.aQ:Int)+(s.size:Int)))):=⟨by
  unfold rD;rw[aB _ rb 4 _ _ _ _ H.o];push_cast;rfl,bQ _ _ 4 _,by have:=vn.o;omega,by have:=vn.o;omega⟩
 have H1:=zh h1;clear h1 c4 f4 lb DW;generalize w.setCell (rb.p 4) (ι ((x.aQ:Int)+(s.size:Int)))=w1 at H1 ⊢;go_loopg [1] (s.size+1) (λgh s1 wr=>∃ (p f:Nat) (ln cl:Int),f=gh/\s1=γ (ε s p s.size)/\p<=s.size/\s.size<f+p/\MvS w rb tb x s p ln cl wr/\dW s f p ln cl=R)
 case atStart=>exact⟨0,s.size+1,x.line,x.col,rfl,by rw[ByteArray.extract_zero_size],zo,zo,H1.o,HR.o.symm⟩
 case round=>
  clear H1;obtain⟨p,f,ln,cl,rfl,rfl,hp,hf,hM,ht⟩:=hrel;have HM:=zh hM;have HT:=zh ht;have Hv:(ε s p s.size).size=s.size-p:=zs
  have XI:=λw=>zcD (ε s p s.size) w;rw[zbY s p hp] at XI;have HO:=zh XI;have hex:∀ k,ε (ε s p s.size) k (ε s p s.size).size=ε s (p+k) s.size:=λk=>by
   rw[Hv,ByteArray.extract_extract,show min (p+(s.size-p)) s.size=s.size by omega]
  have wM:=zh hex;clear hM ht XI hex;by_cases Qq:p<s.size
  . have z1:(0:Int)<((ε s p s.size).size:Int):=zo
    obtain⟨t1,t2⟩:=one_ten Qq;have hd:=pM s p Qq;obtain⟨g,rfl⟩:∃ g,f=g+1:=⟨f-1,zo⟩;have QI:=zax s g p ln cl Qq;rw[HT.o] at QI;have Hl:=zh QI;have:=zq 5 HM.o.sc;have:=zq 6 HM.o.sc;have:=zF 5 HM.o.sc;have:=zF 6 HM.o.sc;have lb:=aA HM.o.sc;have V8:=HM.o.ln;have ym:=HM.o.cl
    have:=lM (n:=ln+1);have:=lM (n:=cl+1);have sw:=Θ t1 t2;rw[<-t2] at hd;have:((bT s p).2:Int)<=((ε s p s.size).size:Int):=zo
    have:(0:Int)<=((bT s p).2:Int):=zo
    have JM:=zh (wM.o (bT s p).2);clear QI HT wM t1 t2 Hv;generalize (bT s p).2=k at*;generalize hc:(bT s p).1=c at*;clear hc;generalize s.extract p s.size=s' at*;by_cases A5:c=10
    . have e:=Hl.o
      rw[zP (sw.o.1.1 A5),<-sw.o.2] at e;have HE:=zh e;have z10:(c==(10:Int))=true:=by simp[A5]
      clear e A5;go_wp2_with (go_at_call 50;refine (HO.o _).mono ?_;rintro e w2 ⟨rfl,rfl⟩);go_roundg g
      case rel=>
       refine⟨p+k,g,ln+1,1,rfl,by rw[JM.o],zo,zo,⟨?_,?_,zo,zo⟩,HE.o.symm⟩
       . exact aB _ rb 6 _ _ _ _ (aB _ rb 5 _ _ _ _ (aB _ rb 6 _ _ _ _ HM.o.sc))
       . exact aC HM.o.gr (aC (aC (bQ _ _ 6 _) (bQ _ _ 5 _)) (bQ _ _ 6 _))
      case measure=>omega
    have e:=Hl.o
    rw[zN (λh=>A5 (sw.o.1.2 h)),<-sw.o.2] at e;have HE:=zh e;have z10:(c==(10:Int))=false:=by simp[A5]
    clear e A5;go_wp2_with (go_at_call 50;refine (HO.o _).mono ?_;rintro e w2 ⟨rfl,rfl⟩);go_roundg g
    case rel=>
     refine⟨p+k,g,ln,cl+1,rfl,by rw[JM.o],zo,zo,⟨?_,?_,zo,zo⟩,HE.o.symm⟩
     . exact aB _ rb 6 _ _ _ _ HM.o.sc
     . exact aC HM.o.gr (bQ _ _ 6 _)
    case measure=>omega
  have z1:¬ (0:Int)<((ε s p s.size).size:Int):=zo
  have e:=HT.o;rw[zbB _ _ _ _ _ zo] at e;have HE:=zh e;clear e Hv wM;generalize s.extract p s.size=s' at*;go_wp2;go_end0;refine⟨rfl,HM.o.gr,?_⟩;rw[<-HE.o];exact HM.o.sc
def RefT (w:ω) (tb:Nat) (T:dX):Prop:=∃ D S n m R,gW tb D S w/\BndH D T n m/\yV T R/\SurT T
theorem RefT.below {w':ω} (h:RefT w tb T) (hb:w.u w'):RefT w' tb T:=by
 obtain⟨D,S,n,m,R,h1,h2,h3,h4⟩:=h;exact⟨D,S,n,m,R,h1.below hb,h2,h3,h4⟩
theorem RefT.run (h:RefT w tb T) (s:η) (hz:s.size<1000000):
 Γ 49 #[bH tb,γ s] w λe w'=>e=ρ (ϕ #[ι (dU T s (dK T s (s.size+1) kY):Nat),ι (dK T s (s.size+1) kY).long,ι (dK T s (s.size+1) kY).rU])/\w.u w':=by
 obtain⟨D,S,n,m,R,h1,h2,h3,h4⟩:=h;have hc:I T.cU=m:=by rw[h2.c];exact h2.nm
 have hg:I T.gO=n:=by rw[h2.g];exact h2.ng
 have h0:0<m:=by
  rw[<-hc];have:=h3.head;cases hl:T.cU with
  | nil=>rw[hl] at this;cases this
  | cons a l=>simp
 refine rrun_any h1 h2 h3 h4 hc ⟨h0,h2.m1⟩ hg (λc hm=>⟨?_,h3.top c hm⟩) s hz;have hh:=h3.head;have hr:=h3.rise;cases hl:T.cU with
 | nil=>rw[hl] at hm;cases hm
 | cons a l=>
  rw[hl] at hh hr hm;cases hh
  rcases List.mem_cons.1 hm with rfl|hm
  . exact Int.le_refl _
  exact Int.le_of_lt ((List.pairwise_cons.1 hr).1 c hm)
def RNextO (rb tb:Nat) (R:Tk×Nat×uU) (w:ω) (e:Ending) (w':ω):Prop:=e=ρ (ϕ #[tkV R.1,ι R.2.1])/\w.g w' rb/\rD w' rb tb R.2.2
structure RnS (w:ω) (rb tb q:Nat) (x:uU) (wr:ω):Prop where
 sc:rD wr rb tb x
 gr:w.g wr rb
 res:wr.h q #[ι 0,ι 0,ι 0,ι 0,γ ⟨#[]⟩] 74
theorem RnS.grown {wr w2:ω} {q:Nat} {x:uU} (h:RnS w rb tb q x wr) (hb:wr.u w2) (hq:q≠rb):RnS w rb tb q x w2:=
 ⟨(hb.block _ (aA h.sc)).trans h.sc,aC h.gr (aH hb _),(hb.block _ (aA h.res)).trans h.res⟩
theorem rsc_e {x:uU} (h:x.e=k):({x with e:=k}:uU)=x:=by subst h;rfl
theorem zch {W w2:ω} {q:Nat} (h:w.g W rb) (k:W.g w2 q) (hq:w.t<=q):w.g w2 rb:=
 ⟨k.os.trans h.os,k.tape.trans h.tape,k.output.trans h.output,zT h.size k.size,λb hb hn=>(k.block b (zLd hb h.size) (λe=>by injection e with e;omega)).trans (h.block b hb hn)⟩
theorem zfP (hT:RefT w tb T) (x:uU) (hx:RWf x) (h:rD w rb tb x):
 Γ 23 #[bH rb] w (RNextO rb tb (gT T x) w):=by
 obtain⟨R,hR⟩:=zE (gT T x);rw[<-hR];have lr:=aA h;obtain⟨w1,yw⟩:=zE (κ w (Ω #[ι 0,ι 0,ι 0,ι 0,γ ⟨#[]⟩] 74));have hq:RnS w rb tb w.t x w1:=by rw[yw];exact⟨(bS _ _ _ lr).trans h,aH (Ξ w _) _,bA _ _ _ rfl⟩
 have Hk:w.u w1:=by rw[yw];exact Ξ w _
 have c7:=zq 7 hq.sc;have c0:=zq 0 hq.sc;have c1:=zq 1 hq.sc;have c2:=zq 2 hq.sc;have c3:=zq 3 hq.sc;have c4:=zq 4 hq.sc;have HQ:=zh hq;have HR:=zh hR;have HX:=zh hx;have HT:=zh (hT.below Hk);clear hR hx hT h hq Hk;unfold bH;go_in;go_upto_region 1 with fail
 rw[<-yw];clear yw;by_cases he:x.e=0
 . have c7':w1.i rb 7 0:=by rw[c7,he];rfl
   have Ls:=zh he;have cd:=HX.o.aQ;have z4:=zu x.aQ x.X.size
   have z40:(0:Int)<=(x.aQ:Int):=zo
   clear c7 he;go_upto_region 3 with fail
   go_quiet (fail);obtain⟨s,hs⟩:=zE (ε x.X x.aQ x.X.size);rw[<-hs];have Vt:s=x.rest:=hs;have Hv:s.size=x.X.size-x.aQ:=by rw[Vt];exact za2 cd
   have hs6:s.size<1000000:=by have:=HX.o.sz;omega
   have Hm:w1.u (w1.drewN nq):=aK iM nq;have HQ2:=zh (HQ.o.grown Hm zo);have Kz:=zh ((HT.o.below Hm).run s hs6);have TE:=zh Vt;have k0:(w1.drewN nq).v rb 0 (bH tb):=c0;unfold bH at Kz k0;clear hs Vt Hv Hm c0 c1 c2 c3 c4 c7';generalize w1.drewN nq=w2 at*;go_upto_region 5 with (go_at_call 49;refine Kz.o.mono ?_;rintro e w3 ⟨rfl,Hu⟩;have VU:=zh Hu;clear Hu)
   obtain⟨X,hX⟩:=zE (dK T s (s.size+1) kY);rw[<-hX];have o5:mU T x.C s x.why=(if x.C<=dU T s X then .err 10 else if dU T s X=s.size/\x.why≠13 then .err x.why else if s.size=0 then .err 13 else if X.rU<0 then (if fY s 0=false/\x.why≠13 then .err x.why else .tok (-1) (δ s 0).2) else .tok X.rU X.long):=by rw[hX];rfl
   have Qh: -1<=X.rU:=by rw[hX];exact zcR _ _ (Int.le_refl _)
   have Ho:∀ r l,mU T x.C s x.why=.tok r l->1<=l/\l<=s.size:=λr l h=>xS (rule':=0) h;have lh:∀ k,mU T x.C s x.why=.err k->R=(tk0,k,{x with e:=k}):=λk h=>by
    rw[HR.o];unfold gT;rw[zN (λh=>h Ls.o),<-TE.o,h]
   have BD:∀ r l,mU T x.C s x.why=.tok r l->R=(⟨r,x.aQ,x.line,x.col,ε s 0 l⟩,0,x.mv (ε s 0 l)):=λr l h=>by
    rw[HR.o];unfold gT;rw[zN (λh=>h Ls.o),<-TE.o,h]
   have HI:=zh o5;have xe:=zh lh;have Ai:=Θ BD Ho;have Vz:=zh (HQ2.o.grown VU.o zo);clear o5 lh BD Ho hX Kz k0;generalize mU T x.C s x.why=N at*;generalize dU T s X=A at*;obtain⟨X1,X2,X3,X4⟩:=X;dsimp only at Qh HI ⊢;have k1:=zq 1 Vz.o.sc;have k3:=zq 3 Vz.o.sc;have k7:=zq 7 Vz.o.sc;have f7:=zF 7 Vz.o.sc
   rw[Ls.o] at k7;have k7':w3.i rb 7 0:=k7;clear k7;obtain⟨d,hd⟩:=zE (decide (x.why=13));have zw:((x.why:Int)==(13:Int))=d:=by rw[hd,Bool.eq_iff_iff];simp;omega
   have HD:=zh hd;clear hd;have Hl:zH (∀ k,RnS w rb tb w.t {x with e:=k} (ς w3 (rb.p 7) (ι (k:Nat)))):=zh λk=>⟨aB _ rb 7 _ _ _ _ Vz.o.sc,aC Vz.o.gr (bQ _ _ 7 _),(aD _ _ _ _ (by show w.t≠rb;omega)).trans Vz.o.res⟩
   go_upto_block 0 with fail
   go_cut [] (λwx=>∃ k,RnS w rb tb w.t {x with e:=k} wx/\((k≠0/\N=.err k)\/(k=0/\0<s.size/\N=(if X4<0 then (if fY s 0=false/\x.why≠13 then .err x.why else .tok (-1) (δ s 0).2) else .tok X4 X3))))
   case first=>
    have SY:({x with e:=0}:uU)=x:=rsc_e Ls.o;have JT:zH (RnS w rb tb w.t {x with e:=0} w3):=zh (by rw[SY];exact Vz.o);clear SY;by_cases hC:x.C<=A
    . have zC:=zu x.C A
      have HN:=zh (HI.o.trans (zP hC));go_wp2;go_meet;exact⟨10,Hl.o 10,.inl ⟨zd,HN.o⟩⟩
    have zC2:¬ (x.C:Int)<=(A:Int):=zo
    have TW:=HI.o.trans (zN hC);by_cases hs:A=s.size/\d=false
    . obtain⟨hs,rfl⟩:=hs
      have zs:((A:Int)==(s.size:Int))=true:=zx
      have HN:=zh (TW.trans (zP ⟨hs,of_decide_eq_false HD.o.symm⟩));clear hs TW;go_wp2;go_meet;exact⟨x.why,Hl.o _,.inl ⟨HX.o.why,HN.o⟩⟩
    . have Yj:=TW.trans (zN (λh=>hs ⟨h.1,by rw[HD.o];exact decide_eq_false h.2⟩))
      have zs:((A:Int)==(s.size:Int))=false\/(((A:Int)==(s.size:Int))=true/\d=true):=by
       by_cases h:A=s.size
       . exact .inr ⟨zx,by cases d;exact absurd ⟨h,rfl⟩ hs;rfl⟩
       exact .inl zx
      clear hs TW;by_cases hz:s.size=0
      . have zz:((s.size:Int)==0)=true:=by rw[beq_iff_eq];omega
        have HN:=zh (Yj.trans (zP hz));clear hz Yj
        rcases zs with zs|⟨zs,rfl⟩
        all_goals
         go_wp2;go_meet;exact⟨13,Hl.o 13,.inl ⟨zd,HN.o⟩⟩
      . have zz:((s.size:Int)==0)=false:=by rw[beq_eq_false_iff_ne];omega
        have HN:=Θ (show 0<s.size by omega) (Yj.trans (zN hz));clear hz Yj
        rcases zs with zs|⟨zs,rfl⟩
        all_goals
         go_wp2;go_meet;exact⟨0,JT.o,.inr ⟨rfl,HN.o.1,HN.o.2⟩⟩
   case rest=>
    clear k1 k3 k7' f7 Hl Vz HQ2 VU HI;obtain⟨k,BB,⟨YQ,hN⟩|⟨YQ,hz,hN⟩⟩:=hcut
    . have xd:=zh BB
      have xe:=zh (xe.o k hN);have zk:((k:Int) != 0)=true:=zx
      clear BB hN YQ;have e5:=zq 7 xd.o.sc;(try dsimp only at e5);have Ys:=xd.o.res;have q0:=zq 0 Ys;have q1:=zq 1 Ys;have q2:=zq 2 Ys;have q3:=zq 3 Ys;have q4:=zq 4 Ys;have r0:=zF 0 Ys;have r1:=zF 1 Ys;have r2:=zF 2 Ys
      have r3:=zF 3 Ys;have r4:=zF 4 Ys;clear Ys;go_upto_region 13 with fail
      refine zzAl ?_;refine bV (λw'=>w'.i rb 7 k) 6 zK e5 (λHc=> ?_);refine zzAD ?_;refine bY 5 (λK hK=> ?_);go_simp;obtain⟨wR,pw⟩:=zE ((pF wc w.t tk0).drew);have KW:wc.g wR w.t:=by rw[pw];exact aM (mO _ _ _) 1
      have Ka:wR.h w.t #[ι 0,ι 0,ι 0,ι 0,γ ⟨#[]⟩] 74:=by rw[pw];exact rX xd.o.res
      change K _ (pF wc w.t tk0).drew;rw[<-pw];clear pw;have Xm:wR.e wc rb:=KW.block rb (aA xd.o.sc) (λe=>by injection e with e;omega);have Qw:=Λ KW Ka Xm;refine hK.out _ _ (λ_=>(World.cell?_of_block Xm).trans e5) ?_;clear hK K KW Ka Xm q0 q1 q2 q3 q4 r0 r1 r2 r3 r4;refine zzAF ?_;refine bY 6 (λK hK=> ?_);go_simp;refine hK.out _ _ (λh=>absurd rfl h) ?_;clear hK K;(try simp only[Act.put,lA,lB,lC])
      refine dB zK ?_;refine NoPanic.normal ?_;go_wp2;have z0:=zq 0 Qw.o.2.1;have z1:=zq 1 Qw.o.2.1;have z2:=zq 2 Qw.o.2.1;have z3:=zq 3 Qw.o.2.1;have z4:=zq 4 Qw.o.2.1
      refine bodyPost_ret (v:=ϕ #[.agg #[ι 0,ι 0,ι 0,ι 0,γ ⟨#[]⟩],ι k]) zzBg rfl ?_;rw[xe.o];exact⟨rfl,zch xd.o.gr Qw.o.1 bR,Qw.o.2.2.trans xd.o.sc⟩
    subst YQ
    have xd:=zh BB;have HN:=zh hN;have k7:=zQ 7 BB.sc;have k7':wc.i rb 7 0:=k7;have l4:=aA BB.sc;clear BB hN k7;go_upto_if 91 with fail
    go_cut [6] (λs6 wx=>∃ len:Nat,s6=ι len/\N=.tok X4 len/\RnS w rb tb w.t {x with e:=0} wx)
    case first=>
     by_cases hr:X4<0
     . have h4:X4= -1:=zo
       obtain⟨len,Ho⟩:=zE ((δ s 0).2);have XI:=zcD s wc;have hwt:=wait_one (s:=s) hz;have XG:=(one_ten (s:=s) (p:=0) hz).2;rw[<-Ho] at XG;rw[XG] at XI;have yu:=HN.o.trans (zP hr);rw[<-Ho,<-h4] at yu;have QO:=zh yu;have HWA:=zh (waits_any s hz hs6 wc);have HO:=zh XI;have WN:=zh hwt;clear yu XI hwt XG h4 Ho;generalize (bT s 0).1=c at*;go_upto_region 16 with (go_at_call 50;refine HO.o.mono ?_;rintro e w9 ⟨rfl,RC⟩;obtain rfl:=RC.symm)
       go_cut [107] (λs107 wx=>s107=φ (decide (c<0/\d=false/\s.size<4))/\wx=wc)
       case first=>
        by_cases hc:c<0
        . cases d with
          | true=>
           go_wp2;go_meet;exact⟨zs,rfl⟩
          | false=>
           by_cases Tc:s.size<4
           . have zs4:(s.size:Int)<4:=zo
             go_wp2;go_meet;exact⟨by simp[hc,Tc],rfl⟩
           have zs4:¬ (s.size:Int)<4:=zo
           go_wp2;go_meet;exact⟨by simp[Tc],rfl⟩
        . go_wp2
          go_meet;exact⟨by rw[decide_eq_false (λh=>by have:=h.1;omega)],rfl⟩
       case rest=>
        obtain⟨rfl,rfl⟩:=hcut;by_cases hg:c<0/\d=false/\s.size<4
        . rw[decide_eq_true hg]
          obtain⟨g1,rfl,g3⟩:=hg;obtain⟨b,hb⟩:=zE ((stS 0 55295 s||stS 57344 1114111 s));have RD:fY s 0=false↔b=true:=by
           have h:=WN.o;rw[show (jL 0 55295 s.size (bL s 0) (bL s 1) (bL s 2)||jL 57344 1114111 s.size (bL s 0) (bL s 1) (bL s 2))=b from hb.symm] at h;rw[h];exact⟨λh=>h.2.2,λh=>⟨g1,g3,h⟩⟩
          have Je:x.why≠13:=of_decide_eq_false HD.o.symm;have HB:=zh hb.symm;cases b with
          | true=>
           have No:∀ W,wc.u W->RnS w rb tb w.t {x with e:=x.why} (W.setCell (rb.p 7) (ι (x.why:Nat))):=λW hW=>by
            have h:=xd.o.grown hW zo;exact⟨aB _ rb 7 _ _ _ _ h.sc,aC h.gr (bQ _ _ 7 _),(aD _ _ _ _ (by show w.t≠rb;omega)).trans h.res⟩
           have AZ:=zh No;have xe:=zh (xe.o x.why (QO.o.trans (zP ⟨RD.2 rfl,Je⟩)));have Ir:∀ W,wc.u W->rb<W.t/\W.i rb 3 x.why/\W.q rb 7/\W.i rb 7 0:=λW hW=>by
            have h:=xd.o.grown hW zo;exact⟨aA h.sc,zQ 3 h.sc,zF 7 h.sc,zQ 7 h.sc⟩
           have IK:=zh Ir;clear No Ir RD Je hb g1 g3;go_upto_region 19 with (go_at_call 51;refine HWA.o.mono ?_;rintro e w5 ⟨rfl,Qn⟩;rw[HB.o];have Y7:=zh Qn;clear Qn)
           obtain⟨l5,c35,f75,c75⟩:=IK.o w5 Y7.o;have Ud:=zh (AZ.o w5 Y7.o);go_upto_region 20 with fail
           clear l5 c35 f75 c75;generalize w5.setCell (rb.p 7) (ι (x.why:Nat))=w6 at Ud ⊢;have e5:=zq 7 Ud.o.sc;(try dsimp only at e5);have Ys:=Ud.o.res;have q0:=zq 0 Ys;have q1:=zq 1 Ys;have q2:=zq 2 Ys;have q3:=zq 3 Ys;have q4:=zq 4 Ys
           have r0:=zF 0 Ys;have r1:=zF 1 Ys;have r2:=zF 2 Ys;have r3:=zF 3 Ys;have r4:=zF 4 Ys;clear Ys;go_upto_region 20 with fail
           refine zzAl ?_;refine bV (λw'=>w'.i rb 7 x.why) 6 zK e5 (λHc=> ?_);refine zzAD ?_;refine bY 5 (λK hK=> ?_);go_simp;obtain⟨wR,pw⟩:=zE ((pF w6 w.t tk0).drew);have KW:w6.g wR w.t:=by rw[pw];exact aM (mO _ _ _) 1
           have Ka:wR.h w.t #[ι 0,ι 0,ι 0,ι 0,γ ⟨#[]⟩] 74:=by rw[pw];exact rX Ud.o.res
           change K _ (pF w6 w.t tk0).drew;rw[<-pw];clear pw;have Xm:wR.e w6 rb:=KW.block rb (aA Ud.o.sc) (λe=>by injection e with e;omega);have Qw:=Λ KW Ka Xm;refine hK.out _ _ (λ_=>(World.cell?_of_block Xm).trans e5) ?_;clear hK K KW Ka Xm q0 q1 q2 q3 q4 r0 r1 r2 r3 r4;refine zzAF ?_;refine bY 6 (λK hK=> ?_);go_simp;refine hK.out _ _ (λh=>absurd rfl h) ?_;clear hK K;(try simp only[Act.put,lA,lB,lC])
           refine dB zK ?_;refine NoPanic.normal ?_;go_wp2_with fail;have z0:=zq 0 Qw.o.2.1;have z1:=zq 1 Qw.o.2.1;have z2:=zq 2 Qw.o.2.1;have z3:=zq 3 Qw.o.2.1;have z4:=zq 4 Qw.o.2.1
           refine bodyPost_ret (v:=ϕ #[.agg #[ι 0,ι 0,ι 0,ι 0,γ ⟨#[]⟩],ι x.why]) zzBg rfl ?_;rw[xe.o];exact⟨rfl,zch Ud.o.gr Qw.o.1 bR,Qw.o.2.2.trans Ud.o.sc⟩
          | false=>
           have Q4:=zh (QO.o.trans (zN (λh=>by have:=RD.1 h.1;cases this)));clear RD Je hb g1 g3;go_wp2_with (go_at_call 51;refine HWA.o.mono ?_;rintro e w5 ⟨rfl,Qn⟩;rw[HB.o];have Y7:=zh Qn;clear Qn);go_meet;exact⟨len,rfl,Q4.o,xd.o.grown Y7.o zo⟩
        rw[decide_eq_false hg]
        have Q4:=zh (QO.o.trans (zN (λh=>hg ⟨(WN.o.1 h.1).1,by rw[HD.o];exact decide_eq_false h.2,(WN.o.1 h.1).2.1⟩)));clear hg;go_wp2;go_meet;exact⟨len,rfl,Q4.o,xd.o⟩
     . have Q4:=zh (HN.o.trans (zN hr))
       go_wp2;go_meet;exact⟨X3,rfl,Q4.o,xd.o⟩
    case rest=>
     clear k7' l4 HN xd zw;obtain⟨len,rfl,hN,No⟩:=hcut;have qo:=Ai.o.2 X4 len hN;have PC:=zh (Ai.o.1 X4 len hN);have AZ:=zh No;clear hN No hz Qh;have l5:=aA AZ.o.sc;have Kb:∀ w',wc.u w'->wc.u w'/\w'.i rb 4 x.aQ/\w'.i rb 5 x.line/\w'.i rb 6 x.col:=λw' hb=>by
      have h:=(AZ.o.grown hb zo).sc;exact⟨hb,zQ 4 h,zQ 5 h,zQ 6 h⟩
     have YZ:=zh Kb;have ax:=zu len s.size
     have Kf:(0:Int)<=(len:Int):=zo
     clear Kb;go_upto_region 22 with fail
     go_region_held3 (λw'=>wc.u w'/\w'.i rb 4 x.aQ/\w'.i rb 5 x.line/\w'.i rb 6 x.col) (first|exact YZ.o _ iM.drew|exact YZ.o _ (iM.drew.alloc zs _)|exact YZ.o _ ((iM.drew.alloc zs _).setCell zs _)) (fail);obtain⟨w5,Xz⟩:=zE ((κ wc (Ω #[ι X4,ι x.aQ,ι x.line,ι x.col,γ (ε s 0 len)] 74)).drew)
     have Qn:wc.u w5:=by rw[Xz];exact (Ξ wc _).drew
     have BE:w5.h wc.t #[ι X4,ι x.aQ,ι x.line,ι x.col,γ (ε s 0 len)] 74:=by rw[Xz];exact bA _ _ _ rfl
     rw[<-Xz];have hq6:=AZ.o.grown Qn zo;have CY:(ε s 0 len).size<1000000:=by rw[fS s len qo.2];omega
     have hmv:=move_any w5 rb tb {x with e:=0} hq6.sc (ε s 0 len) CY (by show x.aQ<=1000000;have:=HX.o.aQ;have:=HX.o.sz;omega) (by show 0<=x.line/\x.line<=1000000000;have:=HX.o.aQ;have:=HX.o.sz;have:=HX.o.line;omega) (by show 0<=x.col/\x.col<=1000000000;have:=HX.o.aQ;have:=HX.o.sz;have:=HX.o.col;omega);have HMV:=zh hmv;have Ud:=zh hq6;have yl:=zh BE;have qg:wc.t≠rb:=zo
     have d4:=zq 4 BE;clear Xz Qn BE hq6 hmv CY ax Kf YZ;generalize wc.heap.size=bx at*;unfold bH at HMV;go_upto_region 24 with (go_at_call 52;refine HMV.o.mono ?_;rintro e w6 ⟨rfl,Kn,r7⟩;have H6:=Θ Kn r7;clear Kn r7)
     have DM:=(H6.o.1.block bx (aA yl.o) (λe=>by injection e with e;exact qg e)).trans yl.o;have T5:=(H6.o.1.block w.t (aA Ud.o.res) (λe=>by injection e with e;omega)).trans Ud.o.res;have d0:=zq 0 DM;have d1:=zq 1 DM;have d2:=zq 2 DM;have d3:=zq 3 DM;have d4:=zq 4 DM;have q0:=zq 0 T5;have q1:=zq 1 T5;have q2:=zq 2 T5;have q3:=zq 3 T5
     have q4:=zq 4 T5;have r0:=zF 0 T5;have r1:=zF 1 T5;have r2:=zF 2 T5;have r3:=zF 3 T5;have r4:=zF 4 T5;have vh:=zh T5;clear DM T5;go_wp2;have KW:=mO w6 w.t ⟨X4,x.aQ,x.line,x.col,ε s 0 len⟩;have Ka:=rX (t:=⟨X4,x.aQ,x.line,x.col,ε s 0 len⟩) vh.o
     have Xm:(pF w6 w.t ⟨X4,x.aQ,x.line,x.col,ε s 0 len⟩).e w6 rb:=KW.block rb (aA H6.o.2) (λe=>by injection e with e;omega);unfold pF at KW Ka Xm;have z0:=zq 0 Ka;have z1:=zq 1 Ka;have z2:=zq 2 Ka;have z3:=zq 3 Ka;have z4:=zq 4 Ka
     refine bodyPost_ret (v:=ϕ #[.agg #[ι X4,ι x.aQ,ι x.line,ι x.col,γ (ε s 0 len)],ι 0]) zzBg rfl ?_;rw[PC.o];have SY:({x with e:=0}:uU)=x:=rsc_e Ls.o;have Yd:=Xm.trans H6.o.2;refine⟨rfl,zch (aC Ud.o.gr H6.o.1) KW bR,?_⟩;show rD _ rb tb (x.mv (ε s 0 len));rw[<-SY];exact Yd
 have z0:((x.e:Int) != 0)=true:=zx
 have xe:zH (R=(tk0,x.e,x)):=zh (by rw[HR.o];unfold gT;rw[zP he]);clear he c0 c1 c2 c3 c4;have e5:=zq 7 HQ.o.sc;(try dsimp only at e5);have Ys:=HQ.o.res;have q0:=zq 0 Ys;have q1:=zq 1 Ys;have q2:=zq 2 Ys;have q3:=zq 3 Ys;have q4:=zq 4 Ys
 have r0:=zF 0 Ys;have r1:=zF 1 Ys;have r2:=zF 2 Ys;have r3:=zF 3 Ys;have r4:=zF 4 Ys;clear Ys;go_upto_region 2 with fail
 refine zzAl ?_;refine bV (λw'=>w'.i rb 7 x.e) 6 zK e5 (λHc=> ?_);refine zzAD ?_;refine bY 5 (λK hK=> ?_);go_simp;obtain⟨wR,pw⟩:=zE ((pF w1 w.t tk0).drew);have KW:w1.g wR w.t:=by rw[pw];exact aM (mO _ _ _) 1
 have Ka:wR.h w.t #[ι 0,ι 0,ι 0,ι 0,γ ⟨#[]⟩] 74:=by rw[pw];exact rX HQ.o.res
 change K _ (pF w1 w.t tk0).drew;rw[<-pw];clear pw;have Xm:wR.e w1 rb:=KW.block rb (aA HQ.o.sc) (λe=>by injection e with e;omega);have Qw:=Λ KW Ka Xm;refine hK.out _ _ (λ_=>(World.cell?_of_block Xm).trans e5) ?_;clear hK K KW Ka Xm q0 q1 q2 q3 q4 r0 r1 r2 r3 r4;refine zzAF ?_;refine bY 6 (λK hK=> ?_);go_simp;refine hK.out _ _ (λh=>absurd rfl h) ?_;clear hK K;(try simp only[Act.put,lA,lB,lC])
 refine dB zK ?_;refine NoPanic.normal ?_;go_wp2;have z0:=zq 0 Qw.o.2.1;have z1:=zq 1 Qw.o.2.1;have z2:=zq 2 Qw.o.2.1;have z3:=zq 3 Qw.o.2.1;have z4:=zq 4 Qw.o.2.1
 refine bodyPost_ret (v:=ϕ #[.agg #[ι 0,ι 0,ι 0,ι 0,γ ⟨#[]⟩],ι x.e]) zzBg rfl ?_;rw[xe.o];exact⟨rfl,zch HQ.o.gr Qw.o.1 bR,Qw.o.2.2.trans HQ.o.sc⟩
