/- Part of a proof. No condition. -/
import Derived.Test.YtmfnmkccbldfpaaGreatDoorS25
import Derived.Test.YtmfnmkccbldfpaaGreatDoorS31
set_option linter.unusedVariables false
set_option linter.unusedSimpArgs false
namespace Go.Proofs.YtmfnmkccbldfpaaGreatDoor
open Go.RowKit Go.Lib Tryz
theorem zzCy {p:Prop} (h:p:=by show s.cL.length+_<=65;omega):p:=h
theorem zzCx {p:Prop} (h:p:=by rw[List.length_modify];omega):p:=h
theorem zzCk {p:Prop} (h:p:=by
 cases o<;>by_cases hm:m=0<;>simp only[hm,if_true,if_false,Bool.false_eq_true]<;>exact h1):p:=h
theorem zzCC {p:Prop} (h:p:=by
 constructor
 . rintro⟨x,hx,h'⟩;exact⟨x,(zaH h x).1 hx,h'⟩
 rintro⟨x,hx,h'⟩;exact⟨x,(zaH h x).2 hx,h'⟩):p:=h
variable {n i f:Nat} {b:rF} {T:dX} {sE sets2 ms:List aZ} {t s:aZ} {x:Int} {L:iT} {rU:List Int} {gO:List (List Int)} {cL:List θ} {G:List cK}
def frB (b:rF):Nat:=b.state.countP (λx=>decide (x=0))
def dnB (b:rF):Nat:=b.state.countP (λx=>decide (x=2))
structure qG (n:Nat) (b:rF):Prop where
 ls:I b.state=n
 lf:I b.far=n
 le:∀ j,χ b.far j 0<=4*(dnB b:Int)+4
 don:∀ j,χ b.state j 0=2->χ b.far j 0<=4*(dnB b:Int)
 nn:∀ j,0<=χ b.far j 0
 st:∀ j,χ b.state j 0=0\/χ b.state j 0=1\/χ b.state j 0=2
theorem frB_set (h:qG n b) (hi:i<n) (x:Int) (hx:x≠0):χ b.state i 0=0->frB {b with state:=b.state.set i x}+1=frB b:=by
 intro h0;have:i<I b.state:=by rw[h.ls];exact hi
 grind [frB]
theorem ziw (x:Int) (hx:x≠0):frB {b with state:=b.state.set i x}<=frB b:=by
 grind [frB,List.set_eq_of_length_le]
theorem dnB_set (h:qG n b) (hi:i<n) (hx:χ b.state i 0=1):dnB {b with state:=b.state.set i 2}=dnB b+1:=by
 grind [dnB]
theorem zhq (h:qG n b) (hi:i<n) (hx:χ b.state i 0=0):dnB {b with state:=b.state.set i 1}=dnB b:=by
 have:i<I b.state:=by rw[h.ls];exact hi
 grind [dnB]
theorem rW (b:rF) (i j:Nat) (x:Int) (hi:i<I b.state):χ (({b with state:=b.state.set i x}:rF).state) j 0=if i=j then x else χ b.state j 0:=by
 grind
theorem qG.open (h:qG n b) (hi:i<n) (hx:χ b.state i 0=0):qG n {b with state:=b.state.set i 1}:=by
 have hl:i<I b.state:=by rw[h.ls];exact hi
 have hd:=zhq h hi hx;refine⟨by simp[h.ls],h.lf,λj=>by rw[hd];exact h.le j,λj hj=> ?_,h.nn,λj=> ?_⟩
 . rw[rW _ _ _ _ hl] at hj
   rw[hd];split at hj
   . cases hj
   exact h.don j hj
 rw[rW _ _ _ _ hl]
 split
 . omega
 exact h.st j
theorem qG.close (h:qG n b) (hi:i<n) (hx:χ b.state i 0=1):qG n {b with state:=b.state.set i 2}:=by
 have hl:i<I b.state:=by rw[h.ls];exact hi
 have hd:=dnB_set h hi hx;refine⟨by simp[h.ls],h.lf,λj=> ?_,λj hj=> ?_,h.nn,λj=> ?_⟩
 . rw[hd];have:=h.le j;grind
 . rw[hd];have:=h.le j;grind
 rw[rW _ _ _ _ hl]
 split
 . omega
 exact h.st j
theorem zgu (b:rF) (i j:Nat) (x:Int):χ (({b with far:=b.far.set i (max (χ b.far i 0) x)}:rF).far) j 0<=max (χ b.far j 0) x/\(i≠j->χ (({b with far:=b.far.set i (max (χ b.far i 0) x)}:rF).far) j 0=χ b.far j 0)/\χ b.far j 0<=χ (({b with far:=b.far.set i (max (χ b.far i 0) x)}:rF).far) j 0:=by
 grind
theorem qG.far (h:qG n b) (hx:χ b.state i 0=1) (x:Int) (RN:x<=4*(dnB b:Int)+4):qG n {b with far:=b.far.set i (max (χ b.far i 0) x)}:=by
 refine⟨h.ls,by simp[h.lf],λj=> ?_,λj hj=> ?_,λj=> ?_,h.st⟩
 . have:=(zgu b i j x).1
   have:=h.le j
   grind [dnB]
 . have e:i≠j:=λe=>by grind
   rw[(zgu b i j x).2.1 e];exact h.don j hj
 exact Int.le_trans (h.nn j) (zgu b i j x).2.2
theorem qG.rnd (h:qG n b) (x:Bool):qG n {b with round:=x}:=⟨h.ls,h.lf,h.le,h.don,h.nn,h.st⟩
def SameSt (b b2:rF):Prop:=∀ j,χ b.state j 0≠0->χ b2.state j 0=χ b.state j 0
theorem walk_ends {m:Nat} (hn:I T.gO=n) (hm:∀ r∈T.gO,I r<=m) (hc:∀ r∈T.gO,∀ x∈r,x<n):∀ (f:Nat),
 (∀ i b,i<n->qG n b->χ b.state i 0=0->frB b*(m+2)<=f->∃ b2,sM T f i b=some b2/\qG n b2/\frB b2<=frB b/\dnB b<=dnB b2/\SameSt b b2/\χ b2.state i 0=2)/\
 (∀ i k r b,i<n->qG n b->χ b.state i 0=1->I r+1+frB b*(m+2)<=f->(∀ x∈r,x<(n:Int))->∃ b2,gX T f i k r b=some b2/\qG n b2/\frB b2<=frB b/\dnB b<=dnB b2/\SameSt b b2):=by
 intro f
 induction f with
 | zero=>
  refine⟨λi b hi hb h0 hf=> ?_,λi k r b hi hb h1 hf=>zo⟩;have hp:=frB_set hb hi 1 zd h0
  grind
 | succ f ih=>
  refine⟨λi b hi hb h0 hf=> ?_,λi k r b hi hb h1 hf hr=> ?_⟩
  . have hl:i<I b.state:=by rw[hb.ls];exact hi
    have hp:=frB_set hb hi 1 zd h0;have hg:χ T.gO i []∈T.gO:=by
     rw[zLf,zLe zo];exact List.getElem_mem _
    have:=hm _ hg;have:frB b*(m+2)=frB {b with state:=b.state.set i 1}*(m+2)+(m+2):=by rw[<-hp,Nat.add_mul];omega
    obtain⟨b2,e,Hm,xv,IX,hs⟩:=ih.2 i 0 (χ T.gO i []) {b with state:=b.state.set i 1} hi (hb.open hi h0) zg zo (λx hx=>hc _ hg x hx);have x8:χ b2.state i 0=1:=by
     rw[hs i zg,rW _ _ _ _ hl,zP rfl]
    have Q9:i<I b2.state:=by rw[Hm.ls];exact hi
    refine⟨{b2 with state:=b2.state.set i 2},by rw[sM,e],Hm.close hi x8,?_,?_,λj hj=> ?_,?_⟩
    . grind [ziw]
    . grind [dnB_set,zhq]
    . have KY:i≠j:=λe=>by grind
      rw[rW _ _ _ _ Q9,zN KY,hs j zg,rW _ _ _ _ hl,zN KY]
    grind
  cases r with
  | nil=>exact⟨b,zr,hb,bR,bR,λ_ _=>rfl⟩
  | cons u r=>
   rw[gX];simp only[List.length_cons] at hf;have DI:∀ x∈r,x<(n:Int):=λx hx=>hr x (List.mem_cons_of_mem _ hx);have:u<(n:Int):=hr u zs;by_cases hu:u<0
   . rw[zP hu]
     exact ih.2 i (k+1) r b hi hb h1 zo DI
   rw[zN hu]
   obtain⟨t,rfl⟩:=Int.eq_ofNat_of_zero_le (Int.not_lt.1 hu);have:t<n:=zo
   have hw:=zcT (χ T.cU k 0);generalize iH (χ T.cU k 0)=wd at hw;simp only[Int.toNat_natCast];have Hk:=hb.far (i:=i) h1 (wd-1) zo;have KU:dnB {b with far:=b.far.set i (max (χ b.far i 0) (wd-1))}=dnB b:=rfl;have Ya:frB {b with far:=b.far.set i (max (χ b.far i 0) (wd-1))}=frB b:=rfl;have Yk:∀ j,χ (({b with far:=b.far.set i (max (χ b.far i 0) (wd-1))}:rF).state) j 0=χ b.state j 0:=λ_=>rfl
   generalize hB:({b with far:=b.far.set i (max (χ b.far i 0) (wd-1))}:rF)=b1 at Hk KU Ya Yk ⊢;have:frB b1*(m+2)=frB b*(m+2):=by rw[Ya]
   split
   . obtain⟨b2,e,q1,q2,q3,q4⟩:=ih.2 i (k+1) r b1 hi Hk zg zo DI
     exact⟨b2,e,q1,zo,zo,λj hj=>by rw[q4 j zg,Yk]⟩
   split
   . obtain⟨b2,e,q1,q2,q3,q4⟩:=ih.2 i (k+1) r {b1 with round:=true} hi (Hk.rnd true) zg (by grind [frB]) DI
     refine⟨b2,zg,q1,?_,?_,λj hj=> ?_⟩
     . grind [frB]
     . grind [dnB]
     have:=q4 j zg
     grind
   rename_i hopen
   have G0:∃ b3,(if χ b1.state t 0=0 then sM T f t b1 else some b1)=some b3/\qG n b3/\frB b3<=frB b1/\dnB b1<=dnB b3/\SameSt b1 b3/\χ b3.state t 0=2:=by
    by_cases h0:χ b1.state t 0=0
    . grind
    rw[zN h0]
    exact⟨b1,rfl,Hk,bR,bR,λ_ _=>rfl,by rcases Hk.st t with h|h|h<;>simp_all⟩
   obtain⟨b3,e3,Hu,hf3,Pe,tk,Vu⟩:=G0;rw[Yk t] at e3;rw[e3];have Je:χ b3.state i 0=1:=by rw[tk i zg,Yk,h1]
   have:=Hu.don t Vu;have qu:=Hu.far (i:=i) Je (wd+χ b3.far t 0) zo;obtain⟨b2,e,q1,q2,q3,q4⟩:=ih.2 i (k+1) r {b3 with far:=b3.far.set i (max (χ b3.far i 0) (wd+χ b3.far t 0))} hi qu Je (by
    show I r+1+frB b3*(m+2)<=f;have:frB b3*(m+2)<=frB b*(m+2):=Nat.mul_le_mul_right _ zo;omega) DI
   refine⟨b2,e,q1,?_,?_,λj hj=> ?_⟩
   . grind [frB]
   . grind [dnB]
   have h5:χ b1.state j 0≠0:=by rw[Yk];exact hj
   have:=tk j h5;have:=q4 j zg
   grind
theorem zcr {m:Nat} (hn:I T.gO=n) (hm:∀ r∈T.gO,I r<=m) (hc:∀ r∈T.gO,∀ x∈r,x<n) (hf:n*(m+2)<=f):∀ (k i:Nat) (Qe:Int) (b:rF),i+k=n->qG n b->∃ Hx b2,eU T f k i Qe b=some (Hx,b2)/\qG n b2
 | 0,i,Qe,b,hi,hb=>⟨Qe,b,zr,hb⟩
 | k+1,i,Qe,b,hi,hb=>by
  rw[eU];split
  . exact zcr hn hm hc hf k (i+1) Qe b zo hb
  have G0:∃ b3,(if χ b.state i 0=0 then sM T f i b else some b)=some b3/\qG n b3:=by
   by_cases h0:χ b.state i 0=0
   . rw[zP h0]
     have qo:frB b<=n:=by rw[<-hb.ls];exact List.countP_le_length
     obtain⟨b3,e,h,_⟩:=(walk_ends hn hm hc f).1 i b zo hb h0 (zT (Nat.mul_le_mul_right _ qo) hf)
     grind
   grind
  obtain⟨b3,e3,Hu⟩:=G0;rw[e3];exact zcr hn hm hc hf k (i+1) _ b3 zo Hu
theorem qG.zero (n:Nat):qG n ⟨ψ n 0,ψ n 0,false⟩:=by
 have:∀ j,χ (ψ n (0:Int)) j 0=0:=λj=>by
  grind
 refine⟨zs,zs,λj=> ?_,λj hj=> ?_,λj=> ?_,λj=> ?_⟩
 all_goals grind
theorem zim {R:Nat} (hT:yV T R) (h:I T.gO<=201):∃ f Hx b2,eU T f (I T.gO) 0 0 ⟨ψ (I T.gO) 0,ψ (I T.gO) 0,false⟩=some (Hx,b2)/\∀ j,χ b2.far j 0<=1000000:=by
 obtain⟨Hx,b2,e,hb⟩:=zcr (T:=T) (n:=I T.gO) (m:=I T.cU) (f:=I T.gO*(I T.cU+2)) rfl (λr hr=>Nat.le_of_eq (hT.rows r hr)) (λr hr x hx=>(hT.cells r hr x hx).2) bR (I T.gO) 0 0 _ zo (qG.zero _);refine⟨_,Hx,b2,e,λj=> ?_⟩;have:=hb.le j;have:dnB b2<=I T.gO:=by
  rw[<-hb.ls];exact List.countP_le_length
 omega
def zb4 (sE:List aZ) (to':aZ) (x:Int):Prop:=(to'=(0,0)->x= -1)/\(to'≠(0,0)->∃ j:Nat,sE[j]?=some to'/\x=(j:Int))
theorem zb4.mono (h:zb4 sE t x) (hp:sE<+:sets2):zb4 sets2 t x:=
 ⟨h.1,λht=>by
  obtain⟨j,h1,h2⟩:=h.2 ht;obtain⟨r,rfl⟩:=hp;exact⟨j,by rw[zGl (List.getElem?_eq_some_iff.1 h1).1];exact h1,h2⟩⟩
theorem zdt {F:aZ}:∀ (ms sE:List aZ) (row:List Int) (sets2:List aZ) (tD:List Int),kG F ms sE row=some (sets2,tD)->sE.Nodup->I sE<=201->
 sE<+:sets2/\sets2.Nodup/\I sets2<=201/\(∀ s∈sets2,s∈sE\/∃ m∈ms,s=F.and m/\s≠(0,0))/\∃ r,tD=row++r/\I r=I ms/\∀ (k:Nat) (m:aZ),ms[k]?=some m->∃ x,r[k]?=some x/\zb4 sets2 (F.and m) x
 | [],sE,row,sets2,tD,h,hn,hl=>by
  rw[kG] at h;cases h;exact⟨List.prefix_refl _,hn,hl,λs hs=>.inl hs,[],zs,rfl,λk m hm=>by simp at hm⟩
 | m::ms,sE,row,sets2,tD,h,hn,hl=>by
  rw[kG] at h;have wrap:∀ (Vj:List aZ) (x:Int),sE<+:Vj->Vj.Nodup->I Vj<=201->(∀ s∈Vj,s∈sE\/(s=F.and m/\s≠(0,0)))->zb4 Vj (F.and m) x->kG F ms Vj (row++[x])=some (sets2,tD)->
   sE<+:sets2/\sets2.Nodup/\I sets2<=201/\(∀ s∈sets2,s∈sE\/∃ m'∈m::ms,s=F.and m'/\s≠(0,0))/\∃ r,tD=row++r/\I r=I (m::ms)/\∀ (k:Nat) (m':aZ),(m::ms)[k]?=some m'->∃ x,r[k]?=some x/\zb4 sets2 (F.and m') x:=by
   intro Vj x hp QR VN Yk hx hg;obtain⟨a1,a2,a3,a4,r,a5,a6,a7⟩:=zdt ms Vj (row++[x]) sets2 tD hg QR VN;refine⟨hp.trans a1,a2,a3,λs hs=> ?_,x::r,by rw[a5];simp,by simp[a6],λk m' hm=> ?_⟩
   . rcases a4 s hs with h|⟨m',Pj,e⟩
     . rcases Yk s h with h|h
       . exact .inl h
       exact .inr ⟨m,zs,h⟩
     exact .inr ⟨m',by simp[Pj],e⟩
   cases k with
   | zero=>
    simp only[zLb,Option.some.injEq] at hm;subst hm;exact⟨x,rfl,hx.mono a1⟩
   | succ k=>
    simp only[zLc] at hm ⊢;exact a7 k m' hm
  (try dsimp only at h);split at h
  . rename_i hz
    exact wrap sE (-1) (List.prefix_refl _) hn hl (λs hs=>.inl hs) ⟨λ_=>rfl,λh'=>absurd hz h'⟩ h
  rename_i hz
  split at h
  . rename_i j hj
    obtain⟨xi,EH,_⟩:=List.findIdx?_eq_some_iff_getElem.1 hj;exact wrap sE j (List.prefix_refl _) hn hl (λs hs=>.inl hs) ⟨λh'=>absurd h' hz,λ_=>⟨j,by rw[zLe xi];simpa using EH,rfl⟩⟩ h
  rename_i hj
  split at h
  . cases h
  rename_i KC
  have K6:=List.findIdx?_eq_none_iff.1 hj;refine wrap (sE++[F.and m]) (I sE) (List.prefix_append _ _) ?_ zx (λs hs=> ?_) ⟨λh'=>absurd h' hz,λ_=>⟨I sE,zs,rfl⟩⟩ h
  . rw[List.nodup_append]
    refine⟨hn,zs,λa ha b hb e=> ?_⟩;rw[zMs] at hb;have:=K6 a ha;simp at this;exact this (e.trans hb)
  rcases List.mem_append.1 hs with h|h
  . exact .inl h
  rw[zMs] at h
  exact .inr ⟨h,by rw[h];exact hz⟩
def RowOk (L:iT) (ms sE:List aZ) (s:aZ) (r:Int) (row:List Int):Prop:=
 r=(bU L s (I L.cL)).2/\I row=I ms/\∀ (k:Nat) (m:aZ),ms[k]?=some m->∃ x,row[k]?=some x/\zb4 sE ((bU L s (I L.cL)).1.and m) x
theorem RowOk.mono {r:Int} {row:List Int} (h:RowOk L ms sE s r row) (hp:sE<+:sets2):RowOk L ms sets2 s r row:=
 ⟨h.1,h.2.1,λk m hm=>by
  obtain⟨x,h1,h2⟩:=h.2.2 k m hm;exact⟨x,h1,h2.mono hp⟩⟩
structure sV (L:iT) (ms sE:List aZ) (rU:List Int) (gO:List (List Int)):Prop where
 lg:I gO=I rU
 le:I rU<=I sE
 nd:sE.Nodup
 hd:sE[0]?=some (1,0)
 max:I sE<=201
 row:∀ (i:Nat) (s:aZ),sE[i]?=some s->i<I rU->∃ r row,rU[i]?=some r/\gO[i]?=some row/\RowOk L ms sE s r row
theorem sV.step (h:sV L ms sE rU gO) (Hf:I rU<I sE) {row:List Int}
 (hg:kG (bU L (χ sE (I rU) (0,0)) (I L.cL)).1 ms sE []=some (sets2,row)):
 sV L ms sets2 (rU++[(bU L (χ sE (I rU) (0,0)) (I L.cL)).2]) (gO++[row])/\sE<+:sets2/\∀ s∈sets2,s∈sE\/∃ m∈ms,s=(bU L (χ sE (I rU) (0,0)) (I L.cL)).1.and m/\s≠(0,0):=by
 obtain⟨hp,a2,a3,a4,r,a5,a6,a7⟩:=zdt ms sE [] sets2 row hg h.nd h.max;rw[List.nil_append] at a5;subst a5;have:=hp.length_le;refine⟨⟨by simp[h.lg],zx,a2,?_,a3,λi s hs hi=> ?_⟩,hp,a4⟩
 . obtain⟨t,rfl⟩:=hp
   rw[zGl (List.getElem?_eq_some_iff.1 h.hd).1];exact h.hd
 have AG:i<I sE->sE[i]?=some s:=λhl=>by
  obtain⟨t,rfl⟩:=hp;rwa [zGl hl] at hs
 rcases zLg i (I rU) with hl|hl
 . obtain⟨r',row',b1,b2,b3⟩:=h.row i s (AG zo) hl
   exact⟨r',row',by rw[zGl hl];exact b1,by rw[zGl (by rw[h.lg];exact hl)];exact b2,b3.mono hp⟩
 have e:i=I rU:=by simp at hi;omega
 subst e;have Yk:=AG Hf;have hsd:χ sE (I rU) (0,0)=s:=by rw[zLf,Yk];rfl
 rw[hsd] at a7 ⊢;exact⟨_,row,zs,by rw[<-h.lg];simp,rfl,a6,a7⟩
theorem zaS :∀ (f:Nat) (sE:List aZ) (rU:List Int) (gO:List (List Int)) (tE:List Int) (Aj:List (List Int)),cO L ms f sE rU gO=some (tE,Aj)->sV L ms sE rU gO->
 ∃ sets2,sE<+:sets2/\sV L ms sets2 tE Aj/\I tE=I sets2
 | 0,sE,rU,gO,tE,Aj,h,hm=>by
  rw[cO] at h;split at h
  . cases h
  . rename_i Br
    cases h;have:=hm.le;exact⟨sE,List.prefix_refl _,hm,zo⟩
 | f+1,sE,rU,gO,tE,Aj,h,hm=>by
  rw[cO] at h;split at h
  . rename_i Hf
    dsimp only at h;split at h
    . cases h
    rename_i Vj row hg
    obtain⟨h1,h2,_⟩:=hm.step Hf hg;obtain⟨sets2,h3,h4,h5⟩:=zaS f _ _ _ _ _ h h1;exact⟨sets2,h2.trans h3,h4,h5⟩
  cases h
  have:=hm.le;exact⟨sE,List.prefix_refl _,hm,zo⟩
theorem sV.start (L:iT) (ms:List aZ):sV L ms [(1,0)] [] []:=⟨rfl,zs,zs,rfl,zs,λi s hs hi=>by simp at hi⟩
theorem make_spec (h:cO L ms f [(1,0)] [] []=some (rU,gO)):∃ sE,sV L ms sE rU gO/\I rU=I sE:=by
 obtain⟨sE,_,h1,h2⟩:=zaS f _ _ _ _ _ h (sV.start L ms);exact⟨sE,h1,h2⟩
theorem qK (p:Nat):aZ.has (0,0) p=false:=by grind [aZ.has]
theorem zci (s:aZ) (n p:Nat) (hp:p<128):(s.add n).has p=(s.has p||decide (p=n)):=by
 grind [aZ.add,aZ.has]
theorem has_or (s t:aZ) (p:Nat):(s.or t).has p=(s.has p||t.has p):=by
 grind [aZ.or,aZ.has]
theorem has_and (s t:aZ) (p:Nat):(s.and t).has p=(s.has p&&t.has p):=by
 grind [aZ.and,aZ.has]
theorem set_ext (hs:s.Ok) (ht:t.Ok) (h:∀ p,p<128->s.has p=t.has p):s=t:=by
 have e:∀ (a b:Nat),a<W64->b<W64->(∀ i,i<64->a.testBit i=b.testBit i)->a=b:=λa b ha hb KJ=>by
  refine Nat.eq_of_testBit_eq λi=> ?_
  rcases zLg i 64 with hi|hi
  . grind
  have:W64<=2^i:=zT (show W64<=2^64 by decide) (Nat.pow_le_pow_right zd hi)
  grind [Nat.testBit_lt_two_pow]
 refine Prod.ext (e _ _ hs.1 ht.1 λi hi=> ?_) (e _ _ hs.2 ht.2 λi hi=> ?_)
 . have:=h i zo
   grind [aZ.has]
 have:=h (i+64) zo
 assumption
theorem ok_and (hs:s.Ok):(s.and t).Ok:=⟨Nat.lt_of_le_of_lt Nat.and_le_left hs.1,Nat.lt_of_le_of_lt Nat.and_le_left hs.2⟩
theorem ok_or (hs:s.Ok) (ht:t.Ok):(s.or t).Ok:=⟨Nat.or_lt_two_pow (n:=64) hs.1 ht.1,Nat.or_lt_two_pow (n:=64) hs.2 ht.2⟩
theorem yD:aZ.Ok (0,0):=⟨zd,zd⟩
theorem zfn (p:Nat) (hp:p<128):aZ.has (1,0) p=decide (p=0):=by
 have:((1,0):aZ)=aZ.add (0,0) 0:=rfl
 grind [zci,qK]
theorem yP (c:Int):∀ (l:List θ) (n:Nat) (s:aZ) (p:Nat),p<128->(dQ c l n s).has p=(s.has p||(decide (n<=p)&&(l[p-n]?.map (fZ · c)).getD false))
 | [],n,s,p,hp=>by simp[dQ]
 | k::r,n,s,p,hp=>by
  rw[dQ,yP c r (n+1) _ p hp]
  grind [zci]
theorem zct (cL:List θ) (c:Int) (p:Nat) (hp:p<128):(bP cL c).has p=(cL[p]?.map (fZ · c)).getD false:=by
 grind [bP,yP,qK]
theorem za7 (L:iT) (s:aZ) (p:Nat):∀ n,(bU L s n).1.has p=true↔∃ k,k<n/\s.has k=true/\(χ L.fO k (0,0)).has p=true
 | 0=>by
  grind [bU,qK]
 | n+1=>by
  rw[bU];have:=za7 L s p n
  grind [has_or]
theorem zbN (hL:∀ x∈L.fO,x.Ok) (s:aZ):∀ n,(bU L s n).1.Ok
 | 0=>yD
 | n+1=>by
  have:=zbN hL s n
  grind [bU,ok_or,yD]
theorem zag (L:iT) (s:aZ):∀ n,((bU L s n).2= -1/\∀ k,k<n->s.has k=true->χ L.rU k (-1)<0)\/
 (0<=(bU L s n).2/\(∃ k,k<n/\s.has k=true/\χ L.rU k (-1)=(bU L s n).2)/\∀ k,k<n->s.has k=true->0<=χ L.rU k (-1)->(bU L s n).2<=χ L.rU k (-1))
 | 0=>.inl ⟨rfl,λk hk=>zo⟩
 | n+1=>by
  have:=zag L s n
  grind [bU]
theorem zbR (cL:List θ) (x:Int):x∈bG cL↔x∈fJ cL:=(kI _).2 x
theorem zao :x∈fJ cL↔x∈cJ\/∃ k∈cL,∃ r∈k,x=r.1\/(r.2<1114111/\x=r.2+1):=by
 unfold fJ;rw[zMa,List.mem_flatMap];constructor
 all_goals grind [bX]
theorem xL (hr:∀ c∈cL,iF c) (hx:x∈bG cL):0<=x/\x<=1114111:=by
 rw[zbR,zao] at hx
 rcases hx with hx|⟨k,hk,r,CW,h⟩
 . grind [cJ]
 have:=hr k hk r CW
 omega
theorem cuts_head (hr:∀ c∈cL,iF c):(bG cL).head?=some 0:=by
 have h0:(0:Int)∈bG cL:=by rw[zbR,zao];exact .inl zd
 have hs:=(kI (fJ cL)).1;have hrg:=λx hx=>xL hr (x:=x) hx;unfold bG at h0 hrg ⊢;generalize zf6 (fJ cL)=l at h0 hs hrg ⊢;cases l with
 | nil=>cases h0
 | cons y l=>
  rcases List.mem_cons.1 h0 with rfl|h
  . rfl
  have:=(List.pairwise_cons.1 hs).1 0 h
  have:=hrg y zs;omega
theorem wf_made {R:Nat} (hr:∀ c∈L.cL,iF c) (hR:∀ x∈L.rU,x<(R:Int)) (h:sV L ((bG L.cL).map (bP L.cL)) sE rU gO) (hl:I rU=I sE) (bnd:Int):
 yV ⟨bG L.cL,rU,gO,bnd⟩ R:=by
 have:=h.max;have:0<I sE:=(List.getElem?_eq_some_iff.1 h.hd).1;have I5:=h.lg;have get:∀ (i:Nat),i<I rU->∃ s r row,sE[i]?=some s/\rU[i]?=some r/\gO[i]?=some row/\RowOk L ((bG L.cL).map (bP L.cL)) sE s r row:=λi hi=>by
  obtain⟨s,hs⟩:=zG sE i zo;obtain⟨r,row,h1,h2,h3⟩:=h.row i s hs hi
  grind
 refine⟨(kI _).1,cuts_head hr,λc hc=>(xL hr hc).2,zg,I5.symm,λrow Hb=> ?_,λrow Hb x hx=> ?_,λx hx=> ?_⟩
 . obtain⟨i,hi⟩:=List.getElem?_of_mem Hb
   obtain⟨s,r,row',_,_,h2,h3⟩:=get i zg;have e:row=row':=by
    have Jk:gO[i]?=some row:=hi;rw[Jk] at h2;cases h2;rfl
   rw[e,h3.2.1,List.length_map]
 . obtain⟨i,hi⟩:=List.getElem?_of_mem Hb
   obtain⟨s,r,row',_,_,h2,h3⟩:=get i zg;have e:row=row':=by
    have Jk:gO[i]?=some row:=hi;rw[Jk] at h2;cases h2;rfl
   subst e;obtain⟨k,hk⟩:=List.getElem?_of_mem hx;have XR:=(List.getElem?_eq_some_iff.1 hk).1;obtain⟨m,hm⟩:∃ m,((bG L.cL).map (bP L.cL))[k]?=some m:=⟨_,zLe (by rw[<-h3.2.1];exact XR)⟩;obtain⟨y,hy,hc⟩:=h3.2.2 k m hm;rw[hk] at hy;cases hy;show -1<=x/\x<(I gO:Int);by_cases JH:(bU L s (I L.cL)).1.and m=(0,0)
   . rw[hc.1 JH];omega
   obtain⟨j,hj,rfl⟩:=hc.2 JH
   grind
 obtain⟨i,hi⟩:=List.getElem?_of_mem hx
 have Jk:rU[i]?=some x:=hi;obtain⟨s,r,row',_,h1,h2,h3⟩:=get i (List.getElem?_eq_some_iff.1 Jk).1;rw[Jk] at h1;cases h1;rw[h3.1]
 rcases zag L s (I L.cL) with⟨e,_⟩|⟨e,⟨k,_,_,hk⟩,_⟩
 . omega
 refine⟨zo,?_⟩
 rw[<-hk];rw[<-hk] at e;rw[zLf] at e ⊢;cases GU:L.rU[k]? with
 | none=>grind
 | some v=>exact hR v (zM GU)
theorem modify_ne {α:Type} {f:α->α} {l:List α} {j:Nat} (h:i≠j):(l.modify i f)[j]?=l[j]?:=by
 rw[List.getElem?_modify];cases l[j]?<;>simp[h]
theorem modify_eq {α:Type} {f:α->α} {l:List α} :(l.modify i f)[i]?=l[i]?.map f:=by
 rw[List.getElem?_modify];cases l[i]?<;>simp
theorem zhw (G:List cK) (q:Nat) (hq:0<q) (Vs:q<128):∀ (l:ο) (s:aZ),(l.foldl (λs k=>if 0<aX G k then s.add (aX G k) else s) s).has q=true↔s.has q=true\/∃ k∈l,aX G k=q
 | [],s=>by simp
 | k::l,s=>by
  rw[List.foldl_cons,zhw G q hq Vs l];constructor
  . rintro (h|⟨j,hj,h⟩)
    . split at h
      . rw[zci _ _ _ Vs,Bool.or_eq_true,decide_eq_true_eq] at h
        rcases h with h|h
        . exact .inl h
        exact .inr ⟨k,zs,h.symm⟩
      exact .inl h
    exact .inr ⟨j,by simp[hj],h⟩
  rintro (h|⟨j,hj,h⟩)
  . refine .inl ?_
    split
    . rw[zci _ _ _ Vs,h];rfl
    exact h
  rcases List.mem_cons.1 hj with rfl|hj
  . refine .inl ?_
    rw[zP zo,zci _ _ _ Vs,h];simp
  exact .inr ⟨j,hj,h⟩
theorem ziS (G:List cK) (l:ο) (q:Nat) (hq:0<q) (Vs:q<128):(aO G l).has q=true↔∃ k∈l,aX G k=q:=by
 unfold aO;rw[zhw G q hq Vs,qK];simp
theorem zgv (G:List cK) (hG:∀ k,aX G k<128):∀ (l:ο) (s:aZ),s.Ok->(l.foldl (λs k=>if 0<aX G k then s.add (aX G k) else s) s).Ok
 | [],s,h=>h
 | k::l,s,h=>by
  rw[List.foldl_cons];refine zgv G hG l _ ?_;split
  . exact zhc h (hG k)
  exact h
theorem zgT (G:List cK) (Z:Nat->Prop) (k:Nat):(∃ x,Rch G k x/\Z x)↔∃ m,oM G Z m k:=by
 constructor
 . rintro⟨x,⟨n,hn⟩,hz⟩
   have key:∀ (n k:Nat),RchN G n k x->oM G Z n k:=by
    intro n
    induction n with
    | zero=>intro k h;rw[RchN] at h;subst h;exact hz
    | succ n ih=>rintro k ⟨j,hj,h⟩;exact oM.cons hj (ih j h)
   exact⟨n,key n k hn⟩
 rintro⟨m,hm⟩
 have key:∀ (m k:Nat),oM G Z m k->∃ x,Rch G k x/\Z x:=by
  intro m
  induction m with
  | zero=>intro k h;exact⟨k,Rch.refl G k,h⟩
  | succ m ih=>
   rintro k (h|⟨j,hj,h⟩)
   . exact⟨k,Rch.refl G k,h⟩
   obtain⟨x,h1,h2⟩:=ih j h
   exact⟨x,Rch.step hj h1,h2⟩
 exact key m k hm
theorem zhJ {t:aL} {s:bC} {e:Nat} {s1:bC} (hc:1<=I s.cL) (h:fE t (I s.kN) (s.push ⟨[],0,false⟩)=some (e,s1)):
 ∃ bs,s1.bE=s.bE++bs/\I bs=gJ t/\I s1.cL=I s.cL+gJ t/\I s1.kN<=I s.kN+1+nK t/\I s.kN<I s1.kN/\(∀ b∈bs,b<I s1.kN)/\
  (∀ k,I (bD s1.kN k)<=I (bD s.kN k)+nK t)/\
  ((∀ k,∀ j∈bD s.kN k,j<I s.kN)->∀ k,∀ j∈bD s1.kN k,j<I s1.kN)/\
  (∀ q,0<q->((∃ x,Rch (s1.fI e).kN (I s.kN) x/\aX (s1.fI e).kN x=q)↔q∈xN t (I s.cL)))/\
  (∀ x b,bs[x]?=some b->(∀ q,0<q->((∃ x,Rch (s1.fI e).kN b x/\aX (s1.fI e).kN x=q)↔oZ t (I s.cL) (I s.cL+x) q))/\
   ((∃ x,Rch (s1.fI e).kN b x/\eM (s1.fI e).kN x=true)↔(I s.cL+x)∈oL t (I s.cL))):=by
 have QZ:I ((s.push ⟨[],0,false⟩).kN)=I s.kN+1:=cZ _ _;have kx:(s.push ⟨[],0,false⟩).cL=s.cL:=rfl;obtain⟨Lnk,bs,hn⟩:=sH t (I s.kN) (s.push ⟨[],0,false⟩) e s1 zo hc h;rw[kx] at hn;have Ho:=hn.len;have nf:=hn.len2;have Z5:e<I s1.kN:=by rcases hn.fin with h|h<;>omega
 have DP:∀ k,bD (s.push ⟨[],0,false⟩).kN k=bD s.kN k:=λk=>by
  rw[uN];split
  . rw[jU _ _ zo]
  rfl
 have hpl0:∀ k,aX (s.push ⟨[],0,false⟩).kN k=aX s.kN k:=λk=>by
  rw[zcI];split
  . rw[yE _ _ zo]
  rfl
 have gto:∀ k,bD (s1.fI e).kN k=bD s1.kN k:=λk=>sL _ _ _;have gpl:∀ k,aX (s1.fI e).kN k=aX s1.kN k:=λk=>zas _ _ _;have gfn:∀ k,eM (s1.fI e).kN k=if k=e then true else eM s1.kN k:=λk=>zfl Z5 k
 generalize (s1.fI e).kN=G at gto gpl gfn;have gi:bD G (I s.kN)=Lnk:=by rw[gto,hn.aQ,DP,jU _ _ bR,List.nil_append]
 have pi:aX G (I s.kN)=0:=by rw[gpl,(hn.oldp _ zo).1,hpl0,yE _ _ bR]
 have ge:bD G e=[]/\aX G e=0:=by
  rcases hn.fin with⟨rfl,_,_,_,hl⟩|⟨h1,h2⟩
  . exact⟨by rw[gi,hl],pi⟩
  rw[gto,gpl];exact hn.e0 h1
 have cmpP:∀ q,0<q->dS G (λx=>aX G x=q) (λp=>p=q) (s.push ⟨[],0,false⟩) s1 e:=λq hq=>by
  refine⟨λk _ _ _=>gto k,λk _ _ _=> ?_⟩;show aX G k=q↔_;rw[gpl];constructor
  . intro h;exact⟨zo,h⟩
  intro h;exact h.2
 have cmpE:dS G (λx=>eM G x=true) (λ_=>False) (s.push ⟨[],0,false⟩) s1 e:=by
  refine⟨λk _ _ _=>gto k,λk hk _ qg=> ?_⟩;show eM G k=true↔_;rw[gfn,zN qg,hn.nfin k hk];simp
 have noe:∀ q,0<q->∀ m,¬ oM G (λx=>aX G x=q) m e:=λq hq m hh=>by
  cases m with
  | zero=>have h':aX G e=q:=hh;omega
  | succ m=>
   rcases hh with hh|⟨j,hj,_⟩
   . have h':aX G e=q:=hh;omega
   rw[ge.1] at hj;cases hj
 refine⟨bs,hn.beh,hn.bl,hn.cL,zo,zo,hn.bsr,λk=>by have:=hn.deg k;rw[DP] at this;exact this,λho k j hj=> ?_,λq hq=> ?_,λx b hb=>⟨λq hq=> ?_,?_⟩⟩
 . rcases zLg k (I s.kN+1) with hk|hk
   . by_cases Og:k=I s.kN
     . subst Og
       rw[hn.aQ,DP,jU _ _ bR,List.nil_append] at hj;exact hn.lnk j hj
     rw[hn.old k zo Og,DP] at hj
     have:=ho k j hj;omega
   exact hn.link k zo j hj
 . rw[zgT G (λx=>aX G x=q)]
   constructor
   . rintro⟨m,hm⟩
     cases m with
     | zero=>have h':aX G (I s.kN)=q:=hm;omega
     | succ m=>
      rcases hm with hm|⟨j,hj,hm⟩
      . have h':aX G (I s.kN)=q:=hm;omega
      rw[gi] at hj
      rcases hn.fwd G _ _ (cmpP q hq) m ⟨j,hj,hm⟩ with⟨p,hp,rfl⟩|⟨_,_,h'⟩
      . exact hp
      exact absurd h' (noe q hq m)
   intro hf
   obtain⟨m,j,hj,hm⟩:=hn.bwd1 G _ _ (cmpP q hq) q hf rfl;exact⟨m+1,oM.cons (by rw[gi];exact hj) hm⟩
 . rw[zgT G (λx=>aX G x=q)]
   constructor
   . rintro⟨m,hm⟩
     rcases hn.bf G _ _ (cmpP q hq) x b hb m hm with⟨p,hp,rfl⟩|⟨_,h'⟩
     . exact hp
     exact absurd h' (noe q hq m)
   intro hf
   exact hn.bb1 G _ _ (cmpP q hq) x b q hb hf rfl
 rw[zgT G (λx=>eM G x=true)]
 constructor
 . rintro⟨m,hm⟩
   rcases hn.bf G _ _ cmpE x b hb m hm with⟨p,_,hp⟩|⟨h',_⟩
   . exact hp.elim
   exact h'
 intro hl
 exact hn.bb2 G _ _ cmpE x b hb hl 0 (by show eM G e=true;rw[gfn,zP rfl])
mutual
theorem qM:∀ (t:aL) (i p:Nat) (s s':bC),fE t i s=some (p,s')->s'.cL=s.cL++kU t
 | .cL c,i,p,s,s',h=>by
  rw[fE] at h;split at h
  . cases h
  . cases h
    rw[kU]
 | .row l,i,p,s,s',h=>by
  rw[fE] at h;rw[kU];exact zhC l i p s s' h
 | .either a b,i,p,s,s',h=>by
  rw[fE] at h;split at h
  . cases h
  . rename_i p1 s2 e1
    split at h
    . cases h
    . rename_i q s3 e2
      cases h;have h1:=qM a _ _ _ _ e1;have h2:=qM b _ _ _ _ e2;show s3.cL=_;rw[h2,h1,kU,<-List.append_assoc];rfl
 | .rep t m o,i,p,s,s',h=>by
  rw[fE] at h;split at h
  . cases h
  rename_i p1 s2 e1
  have h1:=qM t _ _ _ _ e1;cases h;rw[kU];exact zzCk
theorem zhC:∀ (l:List aL) (i p:Nat) (s s':bC),qL l i s=some (p,s')->s'.cL=s.cL++uX l
 | [],i,p,s,s',h=>by
  rw[qL] at h;cases h;rw[uX,List.append_nil]
 | t::l,i,p,s,s',h=>by
  rw[qL] at h;split at h
  . cases h
  rename_i q s2 e1
  rw[zhC l _ _ _ _ h,qM t _ _ _ _ e1,uX,List.append_assoc]
end
mutual
theorem vN:∀ (t:aL) (i:Nat) (s:bC),I s.cL+gJ t<=65->∃ p s',fE t i s=some (p,s')
 | .cL c,i,s,h=>by
  rw[fE];rw[gJ] at h;rw[zN zo];exact⟨_,_,rfl⟩
 | .row l,i,s,h=>by
  rw[gJ] at h;rw[fE];exact zfz l i s h
 | .either a b,i,s,h=>by
  rw[gJ] at h;rw[fE];obtain⟨p,s2,e1⟩:=vN a (I s.kN) ((((s.push ⟨[],0,false⟩).push ⟨[],0,false⟩).push ⟨[],0,false⟩).link i [I s.kN,I s.kN+1]) zzCy;rw[e1];have h2:=qM a _ _ _ _ e1;have hl:=qJ a;obtain⟨q,s3,e2⟩:=vN b (I s.kN+1) s2 (by rw[h2,zLn,hl];show I s.cL+_+_<=65;omega);simp only[e2];exact⟨_,_,rfl⟩
 | .rep t m o,i,s,h=>by
  rw[gJ] at h;rw[fE];obtain⟨p,s2,e1⟩:=vN t (I s.kN) (((s.push ⟨[],0,false⟩).push ⟨[],0,false⟩).link i [I s.kN]) zzCy;rw[e1];exact⟨_,_,rfl⟩
theorem zfz:∀ (l:List aL) (i:Nat) (s:bC),I s.cL+jO l<=65->∃ p s',qL l i s=some (p,s')
 | [],i,s,h=>⟨i,s,by rw[qL]⟩
 | t::l,i,s,h=>by
  rw[jO] at h;rw[qL];obtain⟨p,s2,e1⟩:=vN t i s zo;rw[e1];have h2:=qM t _ _ _ _ e1;have hl:=qJ t;exact zfz l p s2 (by rw[h2,zLn,hl];omega)
theorem qJ:∀ (t:aL),I (kU t)=gJ t
 | .cL c=>rfl
 | .row l=>by rw[kU,gJ];exact zhm l
 | .either a b=>by rw[kU,gJ,zLn,qJ a,qJ b]
 | .rep t m o=>by rw[kU,gJ];exact qJ t
theorem zhm:∀ (l:List aL),I (uX l)=jO l
 | []=>rfl
 | t::l=>by rw[uX,jO,zLn,qJ t,zhm l]
end
def yU:List aL->Nat
 | []=>0
 | t::r=>gJ t+yU r
def pH:List aL->Nat
 | []=>0
 | t::r=>nK t+1+pH r
def fstA:List aL->Nat->Nat->Prop
 | [],_,_=>False
 | t::r,n,q=>q∈xN t n\/fstA r (n+gJ t) q
def folA:List aL->Nat->Nat->Nat->Prop
 | [],_,_,_=>False
 | t::r,n,p,q=>oZ t n p q\/folA r (n+gJ t) p q
def rulA:List aL->Nat->Nat->Nat->Int
 | [],_,_,_=> -1
 | t::r,i,n,p=>if p∈oL t n then i else rulA r (i+1) (n+gJ t) p
theorem folA_ge:∀ (l:List aL) (n p q:Nat),folA l n p q->n<=p
 | [],n,p,q,h=>h.elim
 | t::r,n,p,q,h=>by
  rcases h with h|h
  . exact (mX t n p q h).1
  have:=folA_ge r _ p q h;omega
theorem zgY:∀ (l:List aL) (i n p:Nat),p<n->rulA l i n p= -1
 | [],i,n,p,h=>rfl
 | t::r,i,n,p,h=>by
  rw[rulA,zN (λh'=>by have:=jG t n p h';omega),zgY r _ _ _ zo]
theorem zdG :∀ (bs:ο) (L L2:iT),gB G f i bs L=some L2->L2.cL=L.cL/\
 ∃ fl rl,L2.fO=L.fO++fl/\L2.rU=L.rU++rl/\I fl=I bs/\I rl=I bs/\∀ (x b:Nat),bs[x]?=some b->∃ l,dfs G f b []=some l/\fl[x]?=some (aO G l)/\rl[x]?=some (if jZ G l=true then (i:Int) else -1)
 | [],L,L2,h=>by
  rw[gB] at h;cases h;exact⟨rfl,[],[],zs,zs,rfl,rfl,λx b hb=>by simp at hb⟩
 | b::r,L,L2,h=>by
  rw[gB] at h;split at h
  . cases h
  rename_i l hl
  obtain⟨h0,fl,rl,h1,h2,h3,h4,h5⟩:=zdG r _ _ h;refine⟨h0,aO G l::fl,(if jZ G l=true then (i:Int) else -1)::rl,by rw[h1];simp,by rw[h2];simp,by simp[h3],by simp[h4],λx b' hb=> ?_⟩;cases x with
  | zero=>
   simp only[zLb,Option.some.injEq] at hb;subst hb;exact⟨l,hl,rfl,rfl⟩
  | succ x=>
   simp only[zLc] at hb ⊢;exact h5 x b' hb
theorem yQ :∀ (bs:ο) (L:iT),(∀ b∈bs,∃ l,dfs G f b []=some l)->∃ L2,gB G f i bs L=some L2
 | [],L,_=>⟨L,by rw[gB]⟩
 | b::r,L,h=>by
  rw[gB];obtain⟨l,hl⟩:=h b zs;rw[hl];exact yQ r _ (λb' hb=>h b' (by simp[hb]))
theorem ends_iff (G:List cK) {k:Nat} {l:ο} (h:dfs G f k []=some l):jZ G l=true↔∃ x,Rch G k x/\eM G x=true:=by
 unfold jZ;rw[List.any_eq_true];exact zzCC
theorem zdF (G:List cK) {k:Nat} {l:ο} (h:dfs G f k []=some l) (q:Nat) (hq:0<q) (Vs:q<128):(aO G l).has q=true↔∃ x,Rch G k x/\aX G x=q:=by
 rw[ziS G l q hq Vs];exact zzCC
theorem zhE :∀ (ts:List aL) (i:Nat) (s:bC) (L:iT) (s2:bC) (L2:iT),iC f ts i s L=some (s2,L2)->1<=I s.cL->L.cL=s.cL->I L.fO=I s.cL->I L.rU=I s.cL->
 L2.cL=s2.cL/\s2.cL=s.cL++ts.flatMap kU/\I s2.cL=I s.cL+yU ts/\I L2.fO=I s2.cL/\I L2.rU=I s2.cL/\I s2.kN<=I s.kN+pH ts/\
  (∀ k,I (bD s2.kN k)<=I (bD s.kN k)+pH ts)/\
  (∀ q,0<q->q<128->((χ L2.fO 0 (0,0)).has q=true↔(χ L.fO 0 (0,0)).has q=true\/fstA ts (I s.cL) q))/\
  (∀ p,0<p->p<I s.cL->χ L2.fO p (0,0)=χ L.fO p (0,0)/\χ L2.rU p (-1)=χ L.rU p (-1))/\χ L2.rU 0 (-1)=χ L.rU 0 (-1)/\
  (∀ p,I s.cL<=p->p<I s2.cL->(∀ q,0<q->q<128->((χ L2.fO p (0,0)).has q=true↔folA ts (I s.cL) p q))/\χ L2.rU p (-1)=rulA ts i (I s.cL) p)
 | [],i,s,L,s2,L2,h,hc,h1,h2,h3=>by
  rw[iC] at h;cases h;refine⟨h1,zs,rfl,h2,h3,bR,λ_=>bR,λq _ _=>by simp[fstA],λp _ _=>⟨rfl,rfl⟩,rfl,λp h4 h5=>zo⟩
 | t::r,i,s,L,s2,L2,h,hc,h1,h2,h3=>by
  rw[iC] at h;split at h
  . cases h
  rename_i e s1 e1
  obtain⟨bs,k1,k2,k3,k4,k5,k6,kd,k7,k8,k9⟩:=zhJ hc e1;have kc:=qM t _ _ _ _ e1;have kc':s1.cL=s.cL++kU t:=kc;split at h
  . cases h
  rename_i l0 e2
  split at h
  . cases h
  rename_i L1 e3
  have hb:s1.bE.drop (I s.bE)=bs:=by rw[k1];simp
  rw[hb] at e3;obtain⟨a0,fl,rl,a1,a2,a3,a4,a5⟩:=zdG bs _ _ e3;have a0':L1.cL=s1.cL:=a0;have a1':L1.fO=L.fO.modify 0 (aZ.or · (aO (s1.fI e).kN l0))++fl:=a1;have a2':L1.rU=L.rU++rl:=a2;have Bp:(s1.fI e).cL=s1.cL:=rfl;have Dj:I ((s1.fI e).kN)=I s1.kN:=by simp[bC.fI]
  have Bq:∀ k,bD (s1.fI e).kN k=bD s1.kN k:=λk=>sL _ _ _;obtain⟨b1,b2,b3,b4,b5,bk,bd,b6,b7,b8,b9⟩:=zhE r (i+1) (s1.fI e) L1 s2 L2 h (by rw[Bp];omega) (by rw[Bp];exact a0') (by rw[Bp,a1',zLn,List.length_modify];omega) (by rw[Bp,a2',zLn];omega);rw[Bp] at b2 b3 b6 b7 b9;rw[k3] at b6 b7 b9;have Xl:∀ p,0<p->p<I s.cL->χ L1.fO p (0,0)=χ L.fO p (0,0):=λp hp yf=>by
   rw[a1',zLf,zGl zzCx,modify_ne zo,<-zLf]
  have Z9:χ L1.fO 0 (0,0)=(χ L.fO 0 (0,0)).or (aO (s1.fI e).kN l0):=by
   rw[a1',zLf,zGl zzCx,modify_eq,zLf,zLe zo];rfl
  have iq:∀ p,p<I s.cL->χ L1.rU p (-1)=χ L.rU p (-1):=λp hp=>by
   rw[a2',zLf,zGl zo,<-zLf]
  refine⟨b1,by rw[b2,kc',List.flatMap_cons,List.append_assoc],by rw[b3,k3,yU];omega,b4,b5,by rw[Dj] at bk;rw[pH];omega,λk=> ?_,λq hq Vs=> ?_,λp hp yf=> ?_,?_,λp hp yf=> ?_⟩
  . have z1:=bd k
    have:=kd k;rw[Bq] at z1;rw[pH];omega
  . rw[b6 q hq Vs,Z9,has_or,Bool.or_eq_true,zdF _ e2 q hq Vs,k8 q hq,or_assoc]
    rfl
  . obtain⟨c1,c2⟩:=b7 p hp zo
    exact⟨c1.trans (Xl p hp yf),c2.trans (iq p yf)⟩
  . rw[b8];exact iq 0 zo
  by_cases Hf:p<I s.cL+gJ t
  . obtain⟨c1,c2⟩:=b7 p zo Hf
    obtain⟨x,rfl⟩:∃ x,p=I s.cL+x:=⟨p-I s.cL,zo⟩;obtain⟨b,Yp⟩:=zG bs x zo;obtain⟨lb,d1,d2,d3⟩:=a5 x b Yp;obtain⟨g1,g2⟩:=k9 x b Yp;have ef:χ L1.fO (I s.cL+x) (0,0)=aO (s1.fI e).kN lb:=by
     rw[a1',zLf,zGr zzCx,List.length_modify,show I s.cL+x-I L.fO=x by omega,d2];rfl
    have er:χ L1.rU (I s.cL+x) (-1)=if jZ (s1.fI e).kN lb=true then (i:Int) else -1:=by
     rw[a2',zLf,zGr zo,show I s.cL+x-I L.rU=x by omega,d3];rfl
    refine⟨λq hq Vs=> ?_,?_⟩
    . rw[c1,ef,zdF _ d1 q hq Vs,g1 q hq,folA]
      constructor
      . exact .inl
      rintro (h'|h')
      . exact h'
      have:=folA_ge r _ _ _ h';omega
    rw[c2,er,rulA]
    have o8:jZ (s1.fI e).kN lb=true↔(I s.cL+x)∈oL t (I s.cL):=by rw[ends_iff _ d1];exact g2
    by_cases hl:(I s.cL+x)∈oL t (I s.cL)
    . rw[zP hl,zP (o8.2 hl)]
    rw[zN hl,zN (λh'=>hl (o8.1 h')),zgY _ _ _ _ Hf]
  obtain⟨g1,g2⟩:=b9 p zo yf
  refine⟨λq hq Vs=> ?_,?_⟩
  . rw[g1 q hq Vs,folA]
    constructor
    . exact .inr
    rintro (h'|h')
    . have:=mX t _ _ _ h';omega
    exact h'
  rw[g2,rulA,zN (λh'=>by have:=jG t _ _ h';omega)]
theorem zeq {f:Nat} {M D:Nat} (hf:M*(D+2)+1<=f):∀ (ts:List aL) (i:Nat) (s:bC) (L:iT),1<=I s.cL->I s.cL+yU ts<=65->(∀ k,∀ j∈bD s.kN k,j<I s.kN)->I s.kN+pH ts<=M->(∀ k,I (bD s.kN k)+pH ts<=D)->
 ∃ s2 L2,iC f ts i s L=some (s2,L2)
 | [],i,s,L,_,_,_,_,_=>⟨s,L,by rw[iC]⟩
 | t::r,i,s,L,hc,hn,hl,hM,hD=>by
  rw[yU] at hn;rw[pH] at hM;rw[iC];obtain⟨e,s1,e1⟩:=vN t (I s.kN) (s.push ⟨[],0,false⟩) zzCy;rw[e1];obtain⟨bs,k1,k2,k3,k4,k5,k6,kd,k7,_⟩:=zhJ hc e1;have Bq:∀ k,bD (s1.fI e).kN k=bD s1.kN k:=λk=>sL _ _ _;have Dj:I ((s1.fI e).kN)=I s1.kN:=by simp[bC.fI]
  have hG:NetOk (s1.fI e).kN D:=⟨λk j hj=>by rw[Bq] at hj;rw[Dj];exact k7 hl k j hj,λk=>by rw[Bq];have:=kd k;have:=hD k;rw[pH] at this;omega⟩;have X7:I ((s1.fI e).kN)*(D+2)+1<=f:=by
   have:I ((s1.fI e).kN)*(D+2)<=M*(D+2):=Nat.mul_le_mul_right _ (by rw[Dj];omega);omega
  obtain⟨l0,h0⟩:=zhp hG (k:=I s.kN) (by rw[Dj];exact k5) X7;simp only[h0];have hb:s1.bE.drop (I s.bE)=bs:=by rw[k1];simp
  rw[hb];obtain⟨L1,h1⟩:=yQ (G:=(s1.fI e).kN) (f:=f) (i:=i) bs {L with cL:=s1.cL,fO:=L.fO.modify 0 (aZ.or · (aO (s1.fI e).kN l0))} (λb hb=>zhp hG (by rw[Dj];exact k6 b hb) X7);simp only[h1];refine zeq hf r (i+1) (s1.fI e) L1 (by show 1<=I s1.cL;omega) (by show I s1.cL+_<=65;omega) (λk j hj=>by rw[Bq] at hj;rw[Dj];exact k7 hl k j hj) (by rw[Dj];omega) (λk=> ?_);rw[Bq];have:=kd k;have:=hD k;rw[pH] at this;omega
structure zgb (L:iT) (ts:List aL):Prop where
 cL:L.cL=[]::ts.flatMap kU
 len:I L.cL=yU ts+1
 lr:I L.rU=I L.cL
 lf:I L.fO=I L.cL
 fok:∀ x∈L.fO,x.Ok
 fol0:∀ q,0<q->q<128->((χ L.fO 0 (0,0)).has q=true↔fstA ts 1 q)
 fL:∀ p,1<=p->p<I L.cL->∀ q,0<q->q<128->((χ L.fO p (0,0)).has q=true↔folA ts 1 p q)
 rul0:χ L.rU 0 (-1)= -1
 rul:∀ p,1<=p->p<I L.cL->χ L.rU p (-1)=rulA ts 0 1 p
theorem zbJ (hG:∀ k,aX G k<128):∀ (bs:ο) (L L2:iT),gB G f i bs L=some L2->(∀ x∈L.fO,x.Ok)->∀ x∈L2.fO,x.Ok
 | [],L,L2,h,hL=>by
  grind [gB]
 | b::r,L,L2,h,hL=>by
  rw[gB] at h;split at h
  . cases h
  rename_i l hl
  refine zbJ hG r _ _ h λx hx=> ?_
  rcases List.mem_append.1 hx with hx|hx
  . grind
  rw[zMs] at hx
  rw[hx];exact zgv G hG l (0,0) yD
theorem ziK {α:Type} {f:α->α} {l:List α} {x:α} (h:x∈l.modify i f):x∈l\/∃ y∈l,x=f y:=by
 grind [List.mem_iff_getElem?]
theorem zfA :∀ (ts:List aL) (i:Nat) (s:bC) (L:iT) (s2:bC) (L2:iT),iC f ts i s L=some (s2,L2)->PlOk s->(∀ x∈L.fO,x.Ok)->∀ x∈L2.fO,x.Ok
 | [],i,s,L,s2,L2,h,_,hL=>by
  grind [iC]
 | t::r,i,s,L,s2,L2,h,hs,hL=>by
  rw[iC] at h;split at h
  . cases h
  rename_i e s1 e1
  have Qd:PlOk (s1.fI e):=(pR t _ _ _ _ e1 (hs.push [] 0 false zo)).fI e;have hG:∀ k,aX (s1.fI e).kN k<128:=λk=>by have:=Qd k;omega
  split at h
  . cases h
  rename_i l0 e2
  split at h
  . cases h
  rename_i L1 e3
  refine zfA r _ _ _ _ _ h Qd (zbJ hG _ _ _ e3 λx hx=> ?_)
  rcases ziK hx with hx|⟨y,hy,rfl⟩
  . grind
  exact ok_or (hL y hy) (zgv _ hG l0 (0,0) yD)
theorem zbt:∀ (ts:List aL) (i n p:Nat),rulA ts i n p= -1\/∃ k,rulA ts i n p=((i+k:Nat):Int)/\k<I ts
 | [],i,n,p=>.inl rfl
 | t::r,i,n,p=>by
  rw[rulA];split
  . exact .inr ⟨0,rfl,zs⟩
  rcases zbt r (i+1) (n+gJ t) p with h|⟨k,h,hk⟩
  . omega
  exact .inr ⟨k+1,zo,zg⟩
theorem laid {ts:List aL} {s2:bC} (h:iC f ts 0 kW kX=some (s2,L)):zgb L ts/\pK s2=pK s2/\I s2.kN<=pH ts/\(∀ k,I (bD s2.kN k)<=pH ts)/\I s2.cL=yU ts+1:=by
 obtain⟨h1,h2,h3,h4,h5,h6,h7,h8,h9,A5,dt⟩:=zhE ts 0 kW kX s2 L h zd rfl rfl rfl;have:I L.cL=I s2.cL:=by rw[h1]
 have:I s2.cL=1+yU ts:=h3;refine⟨⟨by rw[h1,h2];rfl,zo,zo,zo,zfA ts 0 _ _ _ _ h (λi=>by simp[aX,kW]) (λx hx=>by grind [kX,yD]),λq hq Vs=> ?_,λp hp yf q hq Vs=>(dt p hp zo).1 q hq Vs,A5,λp hp yf=>(dt p hp zo).2⟩,rfl,by simpa[kW] using h6,λk=>by grind [bD,kW],zo⟩;rw[h8 q hq Vs];constructor
 . rintro (h|h)
   . rw[show χ kX.fO 0 (0,0)=(0,0) from rfl,qK] at h;cases h
   exact h
 simp_all
theorem comp_laid {sT:List η} {tR:List aL} {s2:bC} (n1:1<=I sT) (n8:I sT<=8) (small:∀ s∈sT,s.size<=60)
 (parse:∀ (i:Nat) (s:η),sT[i]?=some s->∃ t,tR[i]?=some t/\iE s=.ok t) (len:I tR=I sT) (XT:yU tR<=64) (hcst:pH tR<=1000000)
 (hrng:∀ c∈tR.flatMap kU,iF c) (hcuts:I (fJ ([]::tR.flatMap kU))<1000000) (Qv:iC f tR 0 kW kX=some (s2,L)) (rU:List Int) (gO:List (List Int))
 (hm:cO L ((bG L.cL).map (bP L.cL)) 202 [(1,0)] [] []=some (rU,gO)):
  ∃ sE fb Hx b2,sV L ((bG L.cL).map (bP L.cL)) sE rU gO/\I rU=I sE/\
   eU ⟨bG L.cL,rU,gO,0⟩ fb (I gO) 0 0 ⟨ψ (I gO) 0,ψ (I gO) 0,false⟩=some (Hx,b2)/\
   Comp sT ⟨bG L.cL,rU,gO,if b2.round then -1 else Hx+1⟩ f tR s2 L rU gO (I sT) fb Hx b2:=by
 obtain⟨hS,_,hk,hd,hc⟩:=laid Qv;obtain⟨sE,h1,h2⟩:=make_spec hm;have hr:∀ c∈L.cL,iF c:=λc hc=>by
  rw[hS.cL] at hc
  rcases List.mem_cons.1 hc with rfl|hc
  . intro r hr;cases hr
  grind
 have hR:∀ x∈L.rU,x<(I sT:Int):=λx hx=>by
  obtain⟨p,hp⟩:=List.mem_iff_getElem?.1 hx;have ky:=(List.getElem?_eq_some_iff.1 hp).1;have hg:χ L.rU p (-1)=x:=by rw[zLf,hp];rfl
  rcases Nat.eq_zero_or_pos p with rfl|h0
  . rw[hS.rul0] at hg;omega
  rw[hS.rul p h0 (by rw[<-hS.lr];exact ky)] at hg
  grind [zbt]
 have hW:=wf_made hr hR h1 h2 0;have:=h1.max;have:=h1.lg;obtain⟨fb,Hx,b2,hb,tV⟩:=zim hW zg;refine⟨sE,fb,Hx,b2,h1,h2,hb,n1,n8,small,parse,len,Qv,⟨λk=>zT (hd k) hcst,zo,zo⟩,by rw[hS.len];omega,by rw[hS.len];omega,hr,by rw[hS.cL];omega,hS.lr,hS.lf,hS.fok,hm,hW,hb,tV,zo,rfl⟩
