/- Part of a proof. No condition. -/
import Derived.Test.YtghpmhllpaheiaaGreatDoorF26
import Derived.Test.YtghpmhllpaheiaaGreatDoorF32
set_option linter.unusedVariables false
set_option linter.unusedSimpArgs false
namespace Go.Proofs.YtghpmhllpaheiaaGreatDoor
open Go.RowKit Go.Lib
variable {i n f:Nat} {b:jI} {T:iP} {sE sets2 ms:List aW} {t s:aW} {x:Int} {L:gK} {rU:List Int} {gO:List (List Int)} {cL:List (List (Int×Int))} {G:List bY}
def yW (b:jI):Nat:=b.state.countP (λx=>decide (x=0))
def dnB (b:jI):Nat:=b.state.countP (λx=>decide (x=2))
structure nM (n:Nat) (b:jI):Prop where
 ls:b.state.length=n
 lf:b.far.length=n
 le:∀ j,b.far.getD j 0<=4*(dnB b:Int)+4
 don:∀ j,b.state.getD j 0=2->b.far.getD j 0<=4*(dnB b:Int)
 nn:∀ j,0<=b.far.getD j 0
 st:∀ j,b.state.getD j 0=0\/b.state.getD j 0=1\/b.state.getD j 0=2
theorem xW {l:List Int} (h:i<l.length):l.getD i 0=l[i]:=by
 rw[zLf,zLe h];rfl
theorem frB_set (h:nM n b) (hi:i<n) (x:Int) (hx:x≠0):b.state.getD i 0=0->yW {b with state:=b.state.set i x}+1=yW b:=by
 intro h0;have hl:i<b.state.length:=by rw[h.ls];exact hi
 rw[xW hl] at h0;unfold yW;show (b.state.set i x).countP _+1=_;rw[List.countP_set hl];have hp:0<b.state.countP (λx=>decide (x=0)):=List.countP_pos_iff.2 ⟨b.state[i],List.getElem_mem hl,by simp[h0]⟩;simp[h0,hx];omega
theorem zfx (x:Int) (hx:x≠0):yW {b with state:=b.state.set i x}<=yW b:=by
 unfold yW;show (b.state.set i x).countP _<=_
 rcases zLg i b.state.length with h|h
 . rw[List.countP_set h];simp[hx]
 rw[List.set_eq_of_length_le h];exact zR _
theorem dnB_set (h:nM n b) (hi:i<n) (hx:b.state.getD i 0=1):dnB {b with state:=b.state.set i 2}=dnB b+1:=by
 have hl:i<b.state.length:=by rw[h.ls];exact hi
 rw[xW hl] at hx;unfold dnB;show (b.state.set i 2).countP _=_;rw[List.countP_set hl];simp[hx]
theorem zeB (h:nM n b) (hi:i<n) (hx:b.state.getD i 0=0):dnB {b with state:=b.state.set i 1}=dnB b:=by
 have hl:i<b.state.length:=by rw[h.ls];exact hi
 rw[xW hl] at hx;unfold dnB;show (b.state.set i 1).countP _=_;rw[List.countP_set hl];simp[hx]
theorem jH (b:jI) (i j:Nat) (x:Int) (hi:i<b.state.length):({b with state:=b.state.set i x}:jI).state.getD j 0=if i=j then x else b.state.getD j 0:=by
 show (b.state.set i x).getD j 0=_;by_cases e:i=j
 . subst e;rw[zP rfl,iH hi]
 rw[zN e,fS e]
theorem nM.open (h:nM n b) (hi:i<n) (hx:b.state.getD i 0=0):nM n {b with state:=b.state.set i 1}:=by
 have hl:i<b.state.length:=by rw[h.ls];exact hi
 have hd:=zeB h hi hx;refine⟨by simp[h.ls],h.lf,λj=>by rw[hd];exact h.le j,λj hj=> ?_,h.nn,λj=> ?_⟩
 . rw[jH _ _ _ _ hl] at hj
   rw[hd];split at hj
   . cases hj
   exact h.don j hj
 rw[jH _ _ _ _ hl]
 split
 . exact .inr (.inl rfl)
 exact h.st j
theorem nM.close (h:nM n b) (hi:i<n) (hx:b.state.getD i 0=1):nM n {b with state:=b.state.set i 2}:=by
 have hl:i<b.state.length:=by rw[h.ls];exact hi
 have hd:=dnB_set h hi hx;refine⟨by simp[h.ls],h.lf,λj=> ?_,λj hj=> ?_,h.nn,λj=> ?_⟩
 . rw[hd];have:=h.le j;push_cast;show b.far.getD j 0<=_;omega
 . rw[hd];have:=h.le j;push_cast;show b.far.getD j 0<=_;omega
 rw[jH _ _ _ _ hl]
 split
 . exact .inr (.inr rfl)
 exact h.st j
theorem zdQ (b:jI) (i j:Nat) (x:Int):({b with far:=b.far.set i (max (b.far.getD i 0) x)}:jI).far.getD j 0<=max (b.far.getD j 0) x/\(i≠j->({b with far:=b.far.set i (max (b.far.getD i 0) x)}:jI).far.getD j 0=b.far.getD j 0)/\b.far.getD j 0<=({b with far:=b.far.set i (max (b.far.getD i 0) x)}:jI).far.getD j 0:=by
 refine⟨?_,λh=> ?_,(gI.far b i x).2.2 j⟩
 . show (b.far.set i _).getD j 0<=_
   by_cases e:i=j
   . subst e
     rcases zLg i b.far.length with h|h
     . rw[iH h];exact Int.le_refl _
     rw[List.set_eq_of_length_le h];omega
   rw[fS e];omega
 show (b.far.set i _).getD j 0=_
 rw[fS h]
theorem nM.far (h:nM n b) (hx:b.state.getD i 0=1) (x:Int) (rd:x<=4*(dnB b:Int)+4):nM n {b with far:=b.far.set i (max (b.far.getD i 0) x)}:=by
 refine⟨h.ls,by simp[h.lf],λj=> ?_,λj hj=> ?_,λj=> ?_,h.st⟩
 . have h1:=(zdQ b i j x).1
   have h2:=h.le j;have h3:dnB {b with far:=b.far.set i (max (b.far.getD i 0) x)}=dnB b:=rfl;rw[h3];omega
 . have e:i≠j:=λe=>by subst e;have:b.state.getD i 0=2:=hj;omega
   rw[(zdQ b i j x).2.1 e];exact h.don j hj
 exact Int.le_trans (h.nn j) (zdQ b i j x).2.2
theorem nM.rnd (h:nM n b) (x:Bool):nM n {b with round:=x}:=⟨h.ls,h.lf,h.le,h.don,h.nn,h.st⟩
def SameSt (b b2:jI):Prop:=∀ j,b.state.getD j 0≠0->b2.state.getD j 0=b.state.getD j 0
theorem walk_ends {m:Nat} (hn:T.gO.length=n) (hm:∀ r∈T.gO,r.length<=m) (hc:∀ r∈T.gO,∀ x∈r,x<n):∀ (f:Nat),
 (∀ i b,i<n->nM n b->b.state.getD i 0=0->yW b*(m+2)<=f->∃ b2,iU T f i b=some b2/\nM n b2/\yW b2<=yW b/\dnB b<=dnB b2/\SameSt b b2/\b2.state.getD i 0=2)/\
 (∀ i k r b,i<n->nM n b->b.state.getD i 0=1->r.length+1+yW b*(m+2)<=f->(∀ x∈r,x<(n:Int))->∃ b2,cJ T f i k r b=some b2/\nM n b2/\yW b2<=yW b/\dnB b<=dnB b2/\SameSt b b2):=by
 intro f
 induction f with
 | zero=>
  refine⟨λi b hi hb h0 hf=> ?_,λi k r b hi hb h1 hf=>by omega⟩;have hp:=frB_set hb hi 1 (by decide) h0;have:yW b*(m+2)≥1*(m+2):=Nat.mul_le_mul_right _ (by omega);omega
 | succ f ih=>
  refine⟨λi b hi hb h0 hf=> ?_,λi k r b hi hb h1 hf hr=> ?_⟩
  . have hl:i<b.state.length:=by rw[hb.ls];exact hi
    have hp:=frB_set hb hi 1 (by decide) h0;have hg:T.gO.getD i []∈T.gO:=by
     rw[zLf,zLe (by omega)];exact List.getElem_mem _
    have Hg:=hm _ hg;have GS:yW b*(m+2)=yW {b with state:=b.state.set i 1}*(m+2)+(m+2):=by rw[<-hp,Nat.add_mul];omega
    obtain⟨b2,e,Hr,YN,Ej,hs⟩:=ih.2 i 0 (T.gO.getD i []) {b with state:=b.state.set i 1} hi (hb.open hi h0) (by rw[jH _ _ _ _ hl,zP rfl]) (by omega) (λx hx=>hc _ hg x hx);have VQ:b2.state.getD i 0=1:=by
     rw[hs i (by rw[jH _ _ _ _ hl,zP rfl];decide),jH _ _ _ _ hl,zP rfl]
    have Yt:i<b2.state.length:=by rw[Hr.ls];exact hi
    refine⟨{b2 with state:=b2.state.set i 2},by rw[iU,e],Hr.close hi VQ,?_,?_,λj hj=> ?_,?_⟩
    . have:=zfx (b:=b2) (i:=i) 2 (by decide)
      omega
    . rw[dnB_set Hr hi VQ]
      have:=zeB hb hi h0;omega
    . have Qr:i≠j:=λe=>by subst e;exact hj h0
      rw[jH _ _ _ _ Yt,zN Qr,hs j (by rw[jH _ _ _ _ hl,zN Qr];exact hj),jH _ _ _ _ hl,zN Qr]
    rw[jH _ _ _ _ Yt,zP rfl]
  cases r with
  | nil=>exact⟨b,by rw[cJ],hb,zR _,zR _,λ_ _=>rfl⟩
  | cons u r=>
   rw[cJ];simp only[List.length_cons] at hf;have JZ:∀ x∈r,x<(n:Int):=λx hx=>hr x (List.mem_cons_of_mem _ hx);have OQ:u<(n:Int):=hr u (by simp);by_cases hu:u<0
   . rw[zP hu]
     exact ih.2 i (k+1) r b hi hb h1 (by omega) JZ
   rw[zN hu]
   obtain⟨t,rfl⟩:=Int.eq_ofNat_of_zero_le (Int.not_lt.1 hu);have ue:t<n:=by omega
   have hw:=za7 (T.cU.getD k 0);generalize fJ (T.cU.getD k 0)=wd at hw;simp only[Int.toNat_natCast];have Hk:=hb.far (i:=i) h1 (wd-1) (by omega);have Xq:dnB {b with far:=b.far.set i (max (b.far.getD i 0) (wd-1))}=dnB b:=rfl;have QT:yW {b with far:=b.far.set i (max (b.far.getD i 0) (wd-1))}=yW b:=rfl;have ye:∀ j,({b with far:=b.far.set i (max (b.far.getD i 0) (wd-1))}:jI).state.getD j 0=b.state.getD j 0:=λ_=>rfl
   generalize hB:({b with far:=b.far.set i (max (b.far.getD i 0) (wd-1))}:jI)=b1 at Hk Xq QT ye ⊢;have Kp:yW b1*(m+2)=yW b*(m+2):=by rw[QT]
   split
   . obtain⟨b2,e,q1,q2,q3,q4⟩:=ih.2 i (k+1) r b1 hi Hk (by rw[ye];exact h1) (by omega) JZ
     exact⟨b2,e,q1,by omega,by omega,λj hj=>by rw[q4 j (by rw[ye];exact hj),ye]⟩
   split
   . obtain⟨b2,e,q1,q2,q3,q4⟩:=ih.2 i (k+1) r {b1 with round:=true} hi (Hk.rnd true) (by show b1.state.getD i 0=1;rw[ye];exact h1) (by show r.length+1+yW b1*(m+2)<=f;omega) JZ
     refine⟨b2,by rw[<-e,<-hB],q1,?_,?_,λj hj=> ?_⟩
     . have:yW b2<=yW b1:=q2
       omega
     . have:dnB b1<=dnB b2:=q3
       omega
     have:=q4 j (by show b1.state.getD j 0≠0;rw[ye];exact hj)
     rw[this];show b1.state.getD j 0=_;rw[ye]
   rename_i NT
   have Pw:∃ b3,(if b1.state.getD t 0=0 then iU T f t b1 else some b1)=some b3/\nM n b3/\yW b3<=yW b1/\dnB b1<=dnB b3/\SameSt b1 b3/\b3.state.getD t 0=2:=by
    by_cases h0:b1.state.getD t 0=0
    . rw[zP h0]
      exact ih.1 t b1 ue Hk h0 (by omega)
    rw[zN h0]
    exact⟨b1,rfl,Hk,zR _,zR _,λ_ _=>rfl,by rcases Hk.st t with h|h|h<;>simp_all⟩
   obtain⟨b3,e3,Qi,hf3,VW,jn,VX⟩:=Pw;rw[ye t] at e3;rw[e3];have Nl:b3.state.getD i 0=1:=by rw[jn i (by rw[ye,h1];decide),ye,h1]
   have C5:=Qi.don t VX;have Qa:=Qi.far (i:=i) Nl (wd+b3.far.getD t 0) (by omega);obtain⟨b2,e,q1,q2,q3,q4⟩:=ih.2 i (k+1) r {b3 with far:=b3.far.set i (max (b3.far.getD i 0) (wd+b3.far.getD t 0))} hi Qa Nl (by
    show r.length+1+yW b3*(m+2)<=f;have:yW b3*(m+2)<=yW b*(m+2):=Nat.mul_le_mul_right _ (by omega);omega) JZ
   refine⟨b2,e,q1,?_,?_,λj hj=> ?_⟩
   . have:yW b2<=yW b3:=q2
     omega
   . have:dnB b3<=dnB b2:=q3
     omega
   have h5:b1.state.getD j 0≠0:=by rw[ye];exact hj
   have h4:=jn j h5;have:=q4 j (by show b3.state.getD j 0≠0;rw[h4];exact h5);rw[this];show b3.state.getD j 0=_;rw[h4,ye]
theorem zaS {m:Nat} (hn:T.gO.length=n) (hm:∀ r∈T.gO,r.length<=m) (hc:∀ r∈T.gO,∀ x∈r,x<n) (hf:n*(m+2)<=f):∀ (k i:Nat) (Hw:Int) (b:jI),i+k=n->nM n b->∃ Hj b2,bZ T f k i Hw b=some (Hj,b2)/\nM n b2
 | 0,i,Hw,b,hi,hb=>⟨Hw,b,by rw[bZ],hb⟩
 | k+1,i,Hw,b,hi,hb=>by
  rw[bZ];split
  . exact zaS hn hm hc hf k (i+1) Hw b (by omega) hb
  have Pw:∃ b3,(if b.state.getD i 0=0 then iU T f i b else some b)=some b3/\nM n b3:=by
   by_cases h0:b.state.getD i 0=0
   . rw[zP h0]
     have Qt:yW b<=n:=by rw[<-hb.ls];exact List.countP_le_length
     obtain⟨b3,e,h,_⟩:=(walk_ends hn hm hc f).1 i b (by omega) hb h0 (zT (Nat.mul_le_mul_right _ Qt) hf);exact⟨b3,e,h⟩
   rw[zN h0]
   exact⟨b,rfl,hb⟩
  obtain⟨b3,e3,Qi⟩:=Pw;rw[e3];exact zaS hn hm hc hf k (i+1) _ b3 (by omega) Qi
theorem nM.zero (n:Nat):nM n ⟨List.replicate n 0,List.replicate n 0,false⟩:=by
 have h0:∀ j,(List.replicate n (0:Int)).getD j 0=0:=λj=>by
  rw[zLf,List.getElem?_replicate];split<;>rfl
 refine⟨by simp,by simp,λj=> ?_,λj hj=> ?_,λj=> ?_,λj=> ?_⟩
 . show (List.replicate n (0:Int)).getD j 0<=_
   rw[h0];omega
 . show (List.replicate n (0:Int)).getD j 0<=_
   rw[h0];omega
 . show 0<=(List.replicate n (0:Int)).getD j 0
   rw[h0];exact Int.le_refl _
 exact .inl (h0 j)
theorem zfl {R:Nat} (hT:WfT T R) (h:T.gO.length<=201):∃ f Hj b2,bZ T f T.gO.length 0 0 ⟨List.replicate T.gO.length 0,List.replicate T.gO.length 0,false⟩=some (Hj,b2)/\∀ j,b2.far.getD j 0<=1000000:=by
 obtain⟨Hj,b2,e,hb⟩:=zaS (T:=T) (n:=T.gO.length) (m:=T.cU.length) (f:=T.gO.length*(T.cU.length+2)) rfl (λr hr=>Nat.le_of_eq (hT.rows r hr)) (λr hr x hx=>(hT.cells r hr x hx).2) (zR _) T.gO.length 0 0 _ (by omega) (nM.zero _);refine⟨_,Hj,b2,e,λj=> ?_⟩;have h1:=hb.le j;have h2:dnB b2<=T.gO.length:=by
  rw[<-hb.ls];exact List.countP_le_length
 omega
def xR (sE:List aW) (to':aW) (x:Int):Prop:=(to'=(0,0)->x= -1)/\(to'≠(0,0)->∃ j:Nat,sE[j]?=some to'/\x=(j:Int))
theorem xR.mono (h:xR sE t x) (hp:sE<+:sets2):xR sets2 t x:=
 ⟨h.1,λht=>by
  obtain⟨j,h1,h2⟩:=h.2 ht;obtain⟨r,rfl⟩:=hp;exact⟨j,by rw[zGl (List.getElem?_eq_some_iff.1 h1).1];exact h1,h2⟩⟩
theorem zbw {F:aW}:∀ (ms sE:List aW) (row:List Int) (sets2:List aW) (Ym:List Int),gM F ms sE row=some (sets2,Ym)->sE.Nodup->sE.length<=201->
 sE<+:sets2/\sets2.Nodup/\sets2.length<=201/\(∀ s∈sets2,s∈sE\/∃ m∈ms,s=F.and m/\s≠(0,0))/\∃ r,Ym=row++r/\r.length=ms.length/\∀ (k:Nat) (m:aW),ms[k]?=some m->∃ x,r[k]?=some x/\xR sets2 (F.and m) x
 | [],sE,row,sets2,Ym,h,hn,hl=>by
  rw[gM] at h;cases h;exact⟨List.prefix_refl _,hn,hl,λs hs=>.inl hs,[],by simp,rfl,λk m hm=>by simp at hm⟩
 | m::ms,sE,row,sets2,Ym,h,hn,hl=>by
  rw[gM] at h;have wrap:∀ (Yw:List aW) (x:Int),sE<+:Yw->Yw.Nodup->Yw.length<=201->(∀ s∈Yw,s∈sE\/(s=F.and m/\s≠(0,0)))->xR Yw (F.and m) x->gM F ms Yw (row++[x])=some (sets2,Ym)->
   sE<+:sets2/\sets2.Nodup/\sets2.length<=201/\(∀ s∈sets2,s∈sE\/∃ m'∈m::ms,s=F.and m'/\s≠(0,0))/\∃ r,Ym=row++r/\r.length=(m::ms).length/\∀ (k:Nat) (m':aW),(m::ms)[k]?=some m'->∃ x,r[k]?=some x/\xR sets2 (F.and m') x:=by
   intro Yw x hp yj kx ye hx hg;obtain⟨a1,a2,a3,a4,r,a5,a6,a7⟩:=zbw ms Yw (row++[x]) sets2 Ym hg yj kx;refine⟨hp.trans a1,a2,a3,λs hs=> ?_,x::r,by rw[a5];simp,by simp[a6],λk m' hm=> ?_⟩
   . rcases a4 s hs with h|⟨m',hm',e⟩
     . rcases ye s h with h|h
       . exact .inl h
       exact .inr ⟨m,by simp,h⟩
     exact .inr ⟨m',by simp[hm'],e⟩
   cases k with
   | zero=>
    simp only[zLb,Option.some.injEq] at hm;subst hm;exact⟨x,rfl,hx.mono a1⟩
   | succ k=>
    simp only[zLc] at hm ⊢;exact a7 k m' hm
  (try dsimp only at h);split at h
  . rename_i hz
    exact wrap sE (-1) (List.prefix_refl _) hn hl (λs hs=>.inl hs) ⟨λ_=>rfl,λh'=>absurd hz h'⟩ h
  rename_i hz
  split at h
  . rename_i j hj
    obtain⟨Yb,UH,_⟩:=List.findIdx?_eq_some_iff_getElem.1 hj;exact wrap sE j (List.prefix_refl _) hn hl (λs hs=>.inl hs) ⟨λh'=>absurd h' hz,λ_=>⟨j,by rw[zLe Yb];simpa using UH,rfl⟩⟩ h
  rename_i hj
  split at h
  . cases h
  rename_i Vt
  have XW:=List.findIdx?_eq_none_iff.1 hj;refine wrap (sE++[F.and m]) sE.length (List.prefix_append _ _) ?_ (by simp;omega) (λs hs=> ?_) ⟨λh'=>absurd h' hz,λ_=>⟨sE.length,by simp,rfl⟩⟩ h
  . rw[List.nodup_append]
    refine⟨hn,by simp,λa ha b hb e=> ?_⟩;rw[zMs] at hb;have:=XW a ha;simp at this;exact this (e.trans hb)
  rcases List.mem_append.1 hs with h|h
  . exact .inl h
  rw[zMs] at h
  exact .inr ⟨h,by rw[h];exact hz⟩
def RowOk (L:gK) (ms sE:List aW) (s:aW) (r:Int) (row:List Int):Prop:=
 r=(bI L s L.cL.length).2/\row.length=ms.length/\∀ (k:Nat) (m:aW),ms[k]?=some m->∃ x,row[k]?=some x/\xR sE ((bI L s L.cL.length).1.and m) x
theorem RowOk.mono {r:Int} {row:List Int} (h:RowOk L ms sE s r row) (hp:sE<+:sets2):RowOk L ms sets2 s r row:=
 ⟨h.1,h.2.1,λk m hm=>by
  obtain⟨x,h1,h2⟩:=h.2.2 k m hm;exact⟨x,h1,h2.mono hp⟩⟩
structure pI (L:gK) (ms sE:List aW) (rU:List Int) (gO:List (List Int)):Prop where
 lg:gO.length=rU.length
 le:rU.length<=sE.length
 nd:sE.Nodup
 hd:sE[0]?=some (1,0)
 max:sE.length<=201
 row:∀ (i:Nat) (s:aW),sE[i]?=some s->i<rU.length->∃ r row,rU[i]?=some r/\gO[i]?=some row/\RowOk L ms sE s r row
theorem pI.step (h:pI L ms sE rU gO) (Hf:rU.length<sE.length) {row:List Int}
 (hg:gM (bI L (sE.getD rU.length (0,0)) L.cL.length).1 ms sE []=some (sets2,row)):
 pI L ms sets2 (rU++[(bI L (sE.getD rU.length (0,0)) L.cL.length).2]) (gO++[row])/\sE<+:sets2/\∀ s∈sets2,s∈sE\/∃ m∈ms,s=(bI L (sE.getD rU.length (0,0)) L.cL.length).1.and m/\s≠(0,0):=by
 obtain⟨hp,a2,a3,a4,r,a5,a6,a7⟩:=zbw ms sE [] sets2 row hg h.nd h.max;rw[List.nil_append] at a5;subst a5;have xp:=hp.length_le;refine⟨⟨by simp[h.lg],by simp;omega,a2,?_,a3,λi s hs hi=> ?_⟩,hp,a4⟩
 . obtain⟨t,rfl⟩:=hp
   rw[zGl (List.getElem?_eq_some_iff.1 h.hd).1];exact h.hd
 have Ck:i<sE.length->sE[i]?=some s:=λhl=>by
  obtain⟨t,rfl⟩:=hp;rwa [zGl hl] at hs
 rcases zLg i rU.length with hl|hl
 . obtain⟨r',row',b1,b2,b3⟩:=h.row i s (Ck (by omega)) hl
   exact⟨r',row',by rw[zGl hl];exact b1,by rw[zGl (by rw[h.lg];exact hl)];exact b2,b3.mono hp⟩
 have e:i=rU.length:=by simp at hi;omega
 subst e;have ye:=Ck Hf;have Z6:sE.getD rU.length (0,0)=s:=by rw[zLf,ye];rfl
 rw[Z6] at a7 ⊢;exact⟨_,row,by simp,by rw[<-h.lg];simp,rfl,a6,a7⟩
theorem xL :∀ (f:Nat) (sE:List aW) (rU:List Int) (gO:List (List Int)) (YV:List Int) (YU:List (List Int)),bU L ms f sE rU gO=some (YV,YU)->pI L ms sE rU gO->
 ∃ sets2,sE<+:sets2/\pI L ms sets2 YV YU/\YV.length=sets2.length
 | 0,sE,rU,gO,YV,YU,h,hm=>by
  rw[bU] at h;split at h
  . cases h
  . rename_i Sz
    cases h;have:=hm.le;exact⟨sE,List.prefix_refl _,hm,by omega⟩
 | f+1,sE,rU,gO,YV,YU,h,hm=>by
  rw[bU] at h;split at h
  . rename_i Hf
    dsimp only at h;split at h
    . cases h
    rename_i Yw row hg
    obtain⟨h1,h2,_⟩:=hm.step Hf hg;obtain⟨sets2,h3,h4,h5⟩:=xL f _ _ _ _ _ h h1;exact⟨sets2,h2.trans h3,h4,h5⟩
  cases h
  have:=hm.le;exact⟨sE,List.prefix_refl _,hm,by omega⟩
theorem pI.start (L:gK) (ms:List aW):pI L ms [(1,0)] [] []:=⟨rfl,by simp,by simp,rfl,by simp,λi s hs hi=>by simp at hi⟩
theorem make_spec (h:bU L ms f [(1,0)] [] []=some (rU,gO)):∃ sE,pI L ms sE rU gO/\rU.length=sE.length:=by
 obtain⟨sE,_,h1,h2⟩:=xL f _ _ _ _ _ h (pI.start L ms);exact⟨sE,h1,h2⟩
theorem nQ (p:Nat):aW.has (0,0) p=false:=by unfold aW.has;split<;>simp
theorem zaJ (s:aW) (n p:Nat) (hp:p<128):(s.add n).has p=(s.has p||decide (p=n)):=by
 unfold aW.add aW.has;have key:∀ (a i j:Nat),(a|||2^i).testBit j=(a.testBit j||decide (j=i)):=λa i j=>by
  rw[Nat.testBit_or,Nat.testBit_two_pow];congr 1;simp[eq_comm]
 by_cases hn:n<64<;>by_cases hq:p<64<;>simp only[hn,hq,if_true,if_false]
 . rw[key]
 . have:decide (p=n)=false:=decide_eq_false (by omega)
   rw[this,Bool.or_false]
 . have:decide (p=n)=false:=decide_eq_false (by omega)
   rw[this,Bool.or_false]
 rw[key]
 congr 1;have:(p-64=n-64)↔(p=n):=by omega
 exact decide_eq_decide.2 this
theorem has_or (s t:aW) (p:Nat):(s.or t).has p=(s.has p||t.has p):=by
 unfold aW.or aW.has;split<;>rw[Nat.testBit_or]
theorem has_and (s t:aW) (p:Nat):(s.and t).has p=(s.has p&&t.has p):=by
 unfold aW.and aW.has;split<;>rw[Nat.testBit_and]
theorem set_ext (hs:s.Ok) (ht:t.Ok) (h:∀ p,p<128->s.has p=t.has p):s=t:=by
 have e:∀ (a b:Nat),a<W64->b<W64->(∀ i,i<64->a.testBit i=b.testBit i)->a=b:=λa b ha hb Xz=>by
  refine Nat.eq_of_testBit_eq λi=> ?_
  rcases zLg i 64 with hi|hi
  . exact Xz i hi
  have hp:W64<=2^i:=zT (show W64<=2^64 by decide) (Nat.pow_le_pow_right (by decide) hi)
  rw[Nat.testBit_lt_two_pow (zLd ha hp),Nat.testBit_lt_two_pow (zLd hb hp)]
 refine Prod.ext (e _ _ hs.1 ht.1 λi hi=> ?_) (e _ _ hs.2 ht.2 λi hi=> ?_)
 . have:=h i (by omega)
   unfold aW.has at this;rwa [zP hi,zP hi] at this
 have:=h (i+64) (by omega)
 unfold aW.has at this;rwa [zN (by omega),zN (by omega),Nat.add_sub_cancel] at this
theorem ok_and (hs:s.Ok):(s.and t).Ok:=⟨Nat.lt_of_le_of_lt Nat.and_le_left hs.1,Nat.lt_of_le_of_lt Nat.and_le_left hs.2⟩
theorem ok_or (hs:s.Ok) (ht:t.Ok):(s.or t).Ok:=⟨Nat.or_lt_two_pow (n:=64) hs.1 ht.1,Nat.or_lt_two_pow (n:=64) hs.2 ht.2⟩
theorem rZ:aW.Ok (0,0):=⟨by decide,by decide⟩
theorem zcV (p:Nat) (hp:p<128):aW.has (1,0) p=decide (p=0):=by
 have:((1,0):aW)=aW.add (0,0) 0:=rfl;rw[this,zaJ _ _ _ hp,nQ,Bool.false_or]
theorem sI (c:Int):∀ (l:List (List (Int×Int))) (n:Nat) (s:aW) (p:Nat),p<128->(dD c l n s).has p=(s.has p||(decide (n<=p)&&(l[p-n]?.map (eB · c)).getD false))
 | [],n,s,p,hp=>by simp[dD]
 | k::r,n,s,p,hp=>by
  rw[dD,sI c r (n+1) _ p hp];have h1:(if eB k c=true then s.add n else s).has p=(s.has p||(eB k c&&decide (p=n))):=by
   cases eB k c with
   | false=>simp
   | true=>simp[zaJ _ _ _ hp]
  rw[h1]
  rcases Nat.lt_trichotomy p n with h|h|h
  . have e1:decide (p=n)=false:=decide_eq_false (by omega)
    have e2:decide (n+1<=p)=false:=decide_eq_false (by omega);have e3:decide (n<=p)=false:=decide_eq_false (by omega);simp[e1,e2,e3]
  . subst h
    have e2:decide (p+1<=p)=false:=decide_eq_false (by omega);simp[e2]
  have e1:decide (p=n)=false:=decide_eq_false (by omega)
  have e2:decide (n+1<=p)=true:=decide_eq_true (by omega);have e3:decide (n<=p)=true:=decide_eq_true (by omega);have e4:p-n=(p-(n+1))+1:=by omega
  simp[e1,e2,e3,e4]
theorem zaU (cL:List (List (Int×Int))) (c:Int) (p:Nat) (hp:p<128):(bG cL c).has p=(cL[p]?.map (eB · c)).getD false:=by
 unfold bG;rw[sI c cL 0 (0,0) p hp,nQ];simp
theorem xO (L:gK) (s:aW) (p:Nat):∀ n,(bI L s n).1.has p=true↔∃ k,k<n/\s.has k=true/\(L.fO.getD k (0,0)).has p=true
 | 0=>by
  rw[bI];constructor
  . intro h;rw[nQ] at h;cases h
  . rintro⟨k,hk,_⟩;omega
 | n+1=>by
  rw[bI];have ih:=xO L s p n;(try dsimp only);split
  . rename_i hn
    rw[has_or,Bool.or_eq_true,ih];constructor
    . rintro (⟨k,h1,h2,h3⟩|h)
      . exact⟨k,by omega,h2,h3⟩
      exact⟨n,by omega,hn,h⟩
    rintro⟨k,h1,h2,h3⟩
    by_cases e:k=n
    . subst e;exact .inr h3
    exact .inl ⟨k,by omega,h2,h3⟩
  rename_i hn
  rw[ih];constructor
  . rintro⟨k,h1,h2,h3⟩;exact⟨k,by omega,h2,h3⟩
  rintro⟨k,h1,h2,h3⟩
  by_cases e:k=n
  . subst e;exact absurd h2 hn
  exact⟨k,by omega,h2,h3⟩
theorem zan (hL:∀ x∈L.fO,x.Ok) (s:aW):∀ n,(bI L s n).1.Ok
 | 0=>rZ
 | n+1=>by
  have ih:=zan hL s n;rw[bI];(try dsimp only);split
  . refine ok_or ih ?_
    rw[zLf];cases h:L.fO[n]? with
    | none=>exact rZ
    | some x=>exact hL x (zM h)
  exact ih
theorem uU (L:gK) (s:aW):∀ n,((bI L s n).2= -1/\∀ k,k<n->s.has k=true->L.rU.getD k (-1)<0)\/
 (0<=(bI L s n).2/\(∃ k,k<n/\s.has k=true/\L.rU.getD k (-1)=(bI L s n).2)/\∀ k,k<n->s.has k=true->0<=L.rU.getD k (-1)->(bI L s n).2<=L.rU.getD k (-1))
 | 0=>.inl ⟨rfl,λk hk=>by omega⟩
 | n+1=>by
  have ih:=uU L s n;rw[bI];generalize bI L s n=q at ih;obtain⟨q1,q2⟩:=q;(try dsimp only at ih ⊢);have cut:∀ k,k<n+1->k=n\/k<n:=λk h=>by omega
  by_cases hn:s.has n=true
  . rw[zP hn]
    (try dsimp only);generalize hr:L.rU.getD n (-1)=r;by_cases hc:0<=r/\(q2<0\/r<q2)
    . rw[zP hc]
      refine .inr ⟨hc.1,⟨n,by omega,hn,hr⟩,λk hk h0 h1=> ?_⟩
      rcases cut k hk with rfl|hk
      . omega
      rcases ih with⟨_,h⟩|⟨_,_,h⟩
      . have:=h k hk h0;omega
      have:=h k hk h0 h1;omega
    rw[zN hc]
    rcases ih with⟨e,h⟩|⟨e,⟨j,j1,j2,j3⟩,h⟩
    . refine .inl ⟨e,λk hk h0=> ?_⟩
      rcases cut k hk with rfl|hk
      . omega
      exact h k hk h0
    refine .inr ⟨e,⟨j,by omega,j2,j3⟩,λk hk h0 h1=> ?_⟩
    rcases cut k hk with rfl|hk
    . omega
    exact h k hk h0 h1
  rw[zN hn]
  rcases ih with⟨e,h⟩|⟨e,⟨j,j1,j2,j3⟩,h⟩
  . refine .inl ⟨e,λk hk h0=> ?_⟩
    rcases cut k hk with rfl|hk
    . exact absurd h0 hn
    exact h k hk h0
  refine .inr ⟨e,⟨j,by omega,j2,j3⟩,λk hk h0 h1=> ?_⟩
  rcases cut k hk with rfl|hk
  . exact absurd h0 hn
  exact h k hk h0 h1
theorem zao (cL:List (List (Int×Int))) (x:Int):x∈bB cL↔x∈eJ cL:=(jQ _).2 x
theorem uA :x∈eJ cL↔x∈bX\/∃ k∈cL,∃ r∈k,x=r.1\/(r.2<1114111/\x=r.2+1):=by
 unfold eJ;rw[zMa,List.mem_flatMap];constructor
 . rintro (h|⟨k,hk,h⟩)
   . exact .inl h
   unfold bN at h
   obtain⟨r,hr,h⟩:=List.mem_flatMap.1 h;refine .inr ⟨k,hk,r,hr,?_⟩;split at h
   . rename_i hl
     simp at h
     rcases h with h|h
     . exact .inl h
     exact .inr ⟨hl,h⟩
   simp at h
   exact .inl h
 rintro (h|⟨k,hk,r,hr,h⟩)
 . exact .inl h
 refine .inr ⟨k,hk,?_⟩
 unfold bN;refine List.mem_flatMap.2 ⟨r,hr,?_⟩
 rcases h with h|⟨h1,h2⟩
 . split<;>simp[h]
 rw[zP h1];simp[h2]
theorem rE (hr:∀ c∈cL,gA c) (hx:x∈bB cL):0<=x/\x<=1114111:=by
 rw[zao,uA] at hx
 rcases hx with hx|⟨k,hk,r,TO,h⟩
 . simp[bX] at hx
   rcases hx with rfl|rfl|rfl|rfl|rfl|rfl<;>decide
 have:=hr k hk r TO
 omega
theorem cuts_head (hr:∀ c∈cL,gA c):(bB cL).head?=some 0:=by
 have h0:(0:Int)∈bB cL:=by rw[zao,uA];exact .inl (by decide)
 have hs:=(jQ (eJ cL)).1;have OG:=λx hx=>rE hr (x:=x) hx;unfold bB at h0 OG ⊢;generalize uW (eJ cL)=l at h0 hs OG ⊢;cases l with
 | nil=>cases h0
 | cons y l=>
  rcases List.mem_cons.1 h0 with rfl|h
  . rfl
  have h1:=(List.pairwise_cons.1 hs).1 0 h
  have:=OG y (by simp);omega
theorem wf_made {R:Nat} (hr:∀ c∈L.cL,gA c) (hR:∀ x∈L.rU,x<(R:Int)) (h:pI L ((bB L.cL).map (bG L.cL)) sE rU gO) (hl:rU.length=sE.length) (bnd:Int):
 WfT ⟨bB L.cL,rU,gO,bnd⟩ R:=by
 have hz:=h.max;have Hg:0<sE.length:=(List.getElem?_eq_some_iff.1 h.hd).1;have Dd:=h.lg;have get:∀ (i:Nat),i<rU.length->∃ s r row,sE[i]?=some s/\rU[i]?=some r/\gO[i]?=some row/\RowOk L ((bB L.cL).map (bG L.cL)) sE s r row:=λi hi=>by
  obtain⟨s,hs⟩:=zG sE i (by omega);obtain⟨r,row,h1,h2,h3⟩:=h.row i s hs hi;exact⟨s,r,row,hs,h1,h2,h3⟩
 refine⟨(jQ _).1,cuts_head hr,λc hc=>(rE hr hc).2,by show 0<gO.length;omega,Dd.symm,λrow Hb=> ?_,λrow Hb x hx=> ?_,λx hx=> ?_⟩
 . obtain⟨i,hi⟩:=List.getElem?_of_mem Hb
   obtain⟨s,r,row',_,_,h2,h3⟩:=get i (by have:=(List.getElem?_eq_some_iff.1 hi).1;simp at this;omega);have e:row=row':=by
    have Kk:gO[i]?=some row:=hi;rw[Kk] at h2;cases h2;rfl
   rw[e,h3.2.1,List.length_map]
 . obtain⟨i,hi⟩:=List.getElem?_of_mem Hb
   obtain⟨s,r,row',_,_,h2,h3⟩:=get i (by have:=(List.getElem?_eq_some_iff.1 hi).1;simp at this;omega);have e:row=row':=by
    have Kk:gO[i]?=some row:=hi;rw[Kk] at h2;cases h2;rfl
   subst e;obtain⟨k,hk⟩:=List.getElem?_of_mem hx;have Y1:=(List.getElem?_eq_some_iff.1 hk).1;obtain⟨m,hm⟩:∃ m,((bB L.cL).map (bG L.cL))[k]?=some m:=⟨_,zLe (by rw[<-h3.2.1];exact Y1)⟩;obtain⟨y,hy,hc⟩:=h3.2.2 k m hm;rw[hk] at hy;cases hy;show -1<=x/\x<(gO.length:Int);by_cases tF:(bI L s L.cL.length).1.and m=(0,0)
   . rw[hc.1 tF];omega
   obtain⟨j,hj,rfl⟩:=hc.2 tF
   have:=(List.getElem?_eq_some_iff.1 hj).1;omega
 obtain⟨i,hi⟩:=List.getElem?_of_mem hx
 have Kk:rU[i]?=some x:=hi;obtain⟨s,r,row',_,h1,h2,h3⟩:=get i (List.getElem?_eq_some_iff.1 Kk).1;rw[Kk] at h1;cases h1;rw[h3.1]
 rcases uU L s L.cL.length with⟨e,_⟩|⟨e,⟨k,_,_,hk⟩,_⟩
 . rw[e];omega
 refine⟨by omega,?_⟩
 rw[<-hk];rw[<-hk] at e;rw[zLf] at e ⊢;cases NH:L.rU[k]? with
 | none=>rw[NH] at e;simp at e
 | some v=>exact hR v (zM NH)
theorem zc9 {α:Type} {f:α->α} {l:List α} {j:Nat} (h:i≠j):(l.modify i f)[j]?=l[j]?:=by
 rw[List.getElem?_modify];cases l[j]?<;>simp[h]
theorem zc8 {α:Type} {f:α->α} {l:List α} :(l.modify i f)[i]?=l[i]?.map f:=by
 rw[List.getElem?_modify];cases l[i]?<;>simp
theorem zeH (G:List bY) (q:Nat) (hq:0<q) (XX:q<128):∀ (l:List Nat) (s:aW),(l.foldl (λs k=>if 0<aY G k then s.add (aY G k) else s) s).has q=true↔s.has q=true\/∃ k∈l,aY G k=q
 | [],s=>by simp
 | k::l,s=>by
  rw[List.foldl_cons,zeH G q hq XX l];constructor
  . rintro (h|⟨j,hj,h⟩)
    . split at h
      . rw[zaJ _ _ _ XX,Bool.or_eq_true,decide_eq_true_eq] at h
        rcases h with h|h
        . exact .inl h
        exact .inr ⟨k,by simp,h.symm⟩
      exact .inl h
    exact .inr ⟨j,by simp[hj],h⟩
  rintro (h|⟨j,hj,h⟩)
  . refine .inl ?_
    split
    . rw[zaJ _ _ _ XX,h];rfl
    exact h
  rcases List.mem_cons.1 hj with rfl|hj
  . refine .inl ?_
    rw[zP (by omega),zaJ _ _ _ XX,h];simp
  exact .inr ⟨j,hj,h⟩
theorem zfL (G:List bY) (l:List Nat) (q:Nat) (hq:0<q) (XX:q<128):(aO G l).has q=true↔∃ k∈l,aY G k=q:=by
 unfold aO;rw[zeH G q hq XX,nQ];simp
theorem zdR (G:List bY) (hG:∀ k,aY G k<128):∀ (l:List Nat) (s:aW),s.Ok->(l.foldl (λs k=>if 0<aY G k then s.add (aY G k) else s) s).Ok
 | [],s,h=>h
 | k::l,s,h=>by
  rw[List.foldl_cons];refine zdR G hG l _ ?_;split
  . exact zep h (hG k)
  exact h
theorem zec (G:List bY) (Z:Nat->Prop) (k:Nat):(∃ x,Rch G k x/\Z x)↔∃ m,lU G Z m k:=by
 constructor
 . rintro⟨x,⟨n,hn⟩,hz⟩
   have key:∀ (n k:Nat),RchN G n k x->lU G Z n k:=by
    intro n
    induction n with
    | zero=>intro k h;rw[RchN] at h;subst h;exact hz
    | succ n ih=>rintro k ⟨j,hj,h⟩;exact lU.cons hj (ih j h)
   exact⟨n,key n k hn⟩
 rintro⟨m,hm⟩
 have key:∀ (m k:Nat),lU G Z m k->∃ x,Rch G k x/\Z x:=by
  intro m
  induction m with
  | zero=>intro k h;exact⟨k,Rch.refl G k,h⟩
  | succ m ih=>
   rintro k (h|⟨j,hj,h⟩)
   . exact⟨k,Rch.refl G k,h⟩
   obtain⟨x,h1,h2⟩:=ih j h
   exact⟨x,Rch.step hj h1,h2⟩
 exact key m k hm
theorem zeS {t:aJ} {s:bA} {e:Nat} {s1:bA} (hc:1<=s.cL.length) (h:eD t s.kN.length (s.push ⟨[],0,false⟩)=some (e,s1)):
 ∃ bs,s1.bE=s.bE++bs/\bs.length=eU t/\s1.cL.length=s.cL.length+eU t/\s1.kN.length<=s.kN.length+1+jL t/\s.kN.length<s1.kN.length/\(∀ b∈bs,b<s1.kN.length)/\
  (∀ k,(bC s1.kN k).length<=(bC s.kN k).length+jL t)/\
  ((∀ k,∀ j∈bC s.kN k,j<s.kN.length)->∀ k,∀ j∈bC s1.kN k,j<s1.kN.length)/\
  (∀ q,0<q->((∃ x,Rch (s1.fI e).kN s.kN.length x/\aY (s1.fI e).kN x=q)↔q∈rI t s.cL.length))/\
  (∀ x b,bs[x]?=some b->(∀ q,0<q->((∃ x,Rch (s1.fI e).kN b x/\aY (s1.fI e).kN x=q)↔mG t s.cL.length (s.cL.length+x) q))/\
   ((∃ x,Rch (s1.fI e).kN b x/\dU (s1.fI e).kN x=true)↔(s.cL.length+x)∈lT t s.cL.length)):=by
 have QG:(s.push ⟨[],0,false⟩).kN.length=s.kN.length+1:=cI _ _;have x8:(s.push ⟨[],0,false⟩).cL=s.cL:=rfl;obtain⟨Lnk,bs,hn⟩:=oT t s.kN.length (s.push ⟨[],0,false⟩) e s1 (by omega) hc h;rw[x8] at hn;have Hg:=hn.len;have A7:=hn.len2;have ow:e<s1.kN.length:=by rcases hn.fin with h|h<;>omega
 have U5:∀ k,bC (s.push ⟨[],0,false⟩).kN k=bC s.kN k:=λk=>by
  rw[pW];split
  . rw[gH _ _ (by omega)]
  rfl
 have Ox:∀ k,aY (s.push ⟨[],0,false⟩).kN k=aY s.kN k:=λk=>by
  rw[pS];split
  . rw[nJ _ _ (by omega)]
  rfl
 have gto:∀ k,bC (s1.fI e).kN k=bC s1.kN k:=λk=>oZ _ _ _;have gpl:∀ k,aY (s1.fI e).kN k=aY s1.kN k:=λk=>uO _ _ _;have gfn:∀ k,dU (s1.fI e).kN k=if k=e then true else dU s1.kN k:=λk=>zcS ow k
 generalize (s1.fI e).kN=G at gto gpl gfn;have gi:bC G s.kN.length=Lnk:=by rw[gto,hn.aQ,U5,gH _ _ (zR _),List.nil_append]
 have pi:aY G s.kN.length=0:=by rw[gpl,(hn.oldp _ (by omega)).1,Ox,nJ _ _ (zR _)]
 have ge:bC G e=[]/\aY G e=0:=by
  rcases hn.fin with⟨rfl,_,_,_,hl⟩|⟨h1,h2⟩
  . exact⟨by rw[gi,hl],pi⟩
  rw[gto,gpl];exact hn.e0 h1
 have cmpP:∀ q,0<q->dJ G (λx=>aY G x=q) (λp=>p=q) (s.push ⟨[],0,false⟩) s1 e:=λq hq=>by
  refine⟨λk _ _ _=>gto k,λk _ _ _=> ?_⟩;show aY G k=q↔_;rw[gpl];constructor
  . intro h;exact⟨by omega,h⟩
  intro h;exact h.2
 have cmpE:dJ G (λx=>dU G x=true) (λ_=>False) (s.push ⟨[],0,false⟩) s1 e:=by
  refine⟨λk _ _ _=>gto k,λk hk _ qo=> ?_⟩;show dU G k=true↔_;rw[gfn,zN qo,hn.nfin k hk];simp
 have noe:∀ q,0<q->∀ m,¬ lU G (λx=>aY G x=q) m e:=λq hq m hh=>by
  cases m with
  | zero=>have h':aY G e=q:=hh;omega
  | succ m=>
   rcases hh with hh|⟨j,hj,_⟩
   . have h':aY G e=q:=hh;omega
   rw[ge.1] at hj;cases hj
 refine⟨bs,hn.beh,hn.bl,hn.cL,by omega,by omega,hn.bsr,λk=>by have:=hn.deg k;rw[U5] at this;exact this,λho k j hj=> ?_,λq hq=> ?_,λx b hb=>⟨λq hq=> ?_,?_⟩⟩
 . rcases zLg k (s.kN.length+1) with hk|hk
   . by_cases Gy:k=s.kN.length
     . subst Gy
       rw[hn.aQ,U5,gH _ _ (zR _),List.nil_append] at hj;exact hn.lnk j hj
     rw[hn.old k (by omega) Gy,U5] at hj
     have:=ho k j hj;omega
   exact hn.link k (by omega) j hj
 . rw[zec G (λx=>aY G x=q)]
   constructor
   . rintro⟨m,hm⟩
     cases m with
     | zero=>have h':aY G s.kN.length=q:=hm;omega
     | succ m=>
      rcases hm with hm|⟨j,hj,hm⟩
      . have h':aY G s.kN.length=q:=hm;omega
      rw[gi] at hj
      rcases hn.fwd G _ _ (cmpP q hq) m ⟨j,hj,hm⟩ with⟨p,hp,rfl⟩|⟨_,_,h'⟩
      . exact hp
      exact absurd h' (noe q hq m)
   intro hf
   obtain⟨m,j,hj,hm⟩:=hn.bwd1 G _ _ (cmpP q hq) q hf rfl;exact⟨m+1,lU.cons (by rw[gi];exact hj) hm⟩
 . rw[zec G (λx=>aY G x=q)]
   constructor
   . rintro⟨m,hm⟩
     rcases hn.bf G _ _ (cmpP q hq) x b hb m hm with⟨p,hp,rfl⟩|⟨_,h'⟩
     . exact hp
     exact absurd h' (noe q hq m)
   intro hf
   exact hn.bb1 G _ _ (cmpP q hq) x b q hb hf rfl
 rw[zec G (λx=>dU G x=true)]
 constructor
 . rintro⟨m,hm⟩
   rcases hn.bf G _ _ cmpE x b hb m hm with⟨p,_,hp⟩|⟨h',_⟩
   . exact hp.elim
   exact h'
 intro hl
 exact hn.bb2 G _ _ cmpE x b hb hl 0 (by show dU G e=true;rw[gfn,zP rfl])
mutual
theorem nR:∀ (t:aJ) (i p:Nat) (s s':bA),eD t i s=some (p,s')->s'.cL=s.cL++iZ t
 | .cL c,i,p,s,s',h=>by
  rw[eD] at h;split at h
  . cases h
  . cases h
    rw[iZ]
 | .row l,i,p,s,s',h=>by
  rw[eD] at h;rw[iZ];exact zeM l i p s s' h
 | .either a b,i,p,s,s',h=>by
  rw[eD] at h;split at h
  . cases h
  . rename_i p1 s2 e1
    split at h
    . cases h
    . rename_i q s3 e2
      cases h;have h1:=nR a _ _ _ _ e1;have h2:=nR b _ _ _ _ e2;show s3.cL=_;rw[h2,h1,iZ,<-List.append_assoc];rfl
 | .rep t m o,i,p,s,s',h=>by
  rw[eD] at h;split at h
  . cases h
  rename_i p1 s2 e1
  have h1:=nR t _ _ _ _ e1;cases h;rw[iZ];cases o<;>by_cases hm:m=0<;>simp only[hm,if_true,if_false,Bool.false_eq_true]<;>exact h1
theorem zeM:∀ (l:List aJ) (i p:Nat) (s s':bA),mY l i s=some (p,s')->s'.cL=s.cL++pF l
 | [],i,p,s,s',h=>by
  rw[mY] at h;cases h;rw[pF,List.append_nil]
 | t::l,i,p,s,s',h=>by
  rw[mY] at h;split at h
  . cases h
  rename_i q s2 e1
  rw[zeM l _ _ _ _ h,nR t _ _ _ _ e1,pF,List.append_assoc]
end
mutual
theorem qO:∀ (t:aJ) (i:Nat) (s:bA),s.cL.length+eU t<=65->∃ p s',eD t i s=some (p,s')
 | .cL c,i,s,h=>by
  rw[eD];rw[eU] at h;rw[zN (by omega)];exact⟨_,_,rfl⟩
 | .row l,i,s,h=>by
  rw[eU] at h;rw[eD];exact zc4 l i s h
 | .either a b,i,s,h=>by
  rw[eU] at h;rw[eD];obtain⟨p,s2,e1⟩:=qO a s.kN.length ((((s.push ⟨[],0,false⟩).push ⟨[],0,false⟩).push ⟨[],0,false⟩).link i [s.kN.length,s.kN.length+1]) (by show s.cL.length+_<=65;omega);rw[e1];have h2:=nR a _ _ _ _ e1;have hl:=nO a;obtain⟨q,s3,e2⟩:=qO b (s.kN.length+1) s2 (by rw[h2,zLn,hl];show s.cL.length+_+_<=65;omega);simp only[e2];exact⟨_,_,rfl⟩
 | .rep t m o,i,s,h=>by
  rw[eU] at h;rw[eD];obtain⟨p,s2,e1⟩:=qO t s.kN.length (((s.push ⟨[],0,false⟩).push ⟨[],0,false⟩).link i [s.kN.length]) (by show s.cL.length+_<=65;omega);rw[e1];exact⟨_,_,rfl⟩
theorem zc4:∀ (l:List aJ) (i:Nat) (s:bA),s.cL.length+iE l<=65->∃ p s',mY l i s=some (p,s')
 | [],i,s,h=>⟨i,s,by rw[mY]⟩
 | t::l,i,s,h=>by
  rw[iE] at h;rw[mY];obtain⟨p,s2,e1⟩:=qO t i s (by omega);rw[e1];have h2:=nR t _ _ _ _ e1;have hl:=nO t;exact zc4 l p s2 (by rw[h2,zLn,hl];omega)
theorem nO:∀ (t:aJ),(iZ t).length=eU t
 | .cL c=>rfl
 | .row l=>by rw[iZ,eU];exact zew l
 | .either a b=>by rw[iZ,eU,zLn,nO a,nO b]
 | .rep t m o=>by rw[iZ,eU];exact nO t
theorem zew:∀ (l:List aJ),(pF l).length=iE l
 | []=>rfl
 | t::l=>by rw[pF,iE,zLn,nO t,zew l]
end
def qQ:List aJ->Nat
 | []=>0
 | t::r=>eU t+qQ r
def mO:List aJ->Nat
 | []=>0
 | t::r=>jL t+1+mO r
def fstA:List aJ->Nat->Nat->Prop
 | [],_,_=>False
 | t::r,n,q=>q∈rI t n\/fstA r (n+eU t) q
def folA:List aJ->Nat->Nat->Nat->Prop
 | [],_,_,_=>False
 | t::r,n,p,q=>mG t n p q\/folA r (n+eU t) p q
def rulA:List aJ->Nat->Nat->Nat->Int
 | [],_,_,_=> -1
 | t::r,i,n,p=>if p∈lT t n then i else rulA r (i+1) (n+eU t) p
theorem folA_ge:∀ (l:List aJ) (n p q:Nat),folA l n p q->n<=p
 | [],n,p,q,h=>h.elim
 | t::r,n,p,q,h=>by
  rcases h with h|h
  . exact (kK t n p q h).1
  have:=folA_ge r _ p q h;omega
theorem zef:∀ (l:List aJ) (i n p:Nat),p<n->rulA l i n p= -1
 | [],i,n,p,h=>rfl
 | t::r,i,n,p,h=>by
  rw[rulA,zN (λh'=>by have:=iC t n p h';omega),zef r _ _ _ (by omega)]
theorem zbE :∀ (bs:List Nat) (L L2:gK),eV G f i bs L=some L2->L2.cL=L.cL/\
 ∃ fl rl,L2.fO=L.fO++fl/\L2.rU=L.rU++rl/\fl.length=bs.length/\rl.length=bs.length/\∀ (x b:Nat),bs[x]?=some b->∃ l,uC G f b []=some l/\fl[x]?=some (aO G l)/\rl[x]?=some (if iR G l=true then (i:Int) else -1)
 | [],L,L2,h=>by
  rw[eV] at h;cases h;exact⟨rfl,[],[],by simp,by simp,rfl,rfl,λx b hb=>by simp at hb⟩
 | b::r,L,L2,h=>by
  rw[eV] at h;split at h
  . cases h
  rename_i l hl
  obtain⟨h0,fl,rl,h1,h2,h3,h4,h5⟩:=zbE r _ _ h;refine⟨h0,aO G l::fl,(if iR G l=true then (i:Int) else -1)::rl,by rw[h1];simp,by rw[h2];simp,by simp[h3],by simp[h4],λx b' hb=> ?_⟩;cases x with
  | zero=>
   simp only[zLb,Option.some.injEq] at hb;subst hb;exact⟨l,hl,rfl,rfl⟩
  | succ x=>
   simp only[zLc] at hb ⊢;exact h5 x b' hb
theorem sJ :∀ (bs:List Nat) (L:gK),(∀ b∈bs,∃ l,uC G f b []=some l)->∃ L2,eV G f i bs L=some L2
 | [],L,_=>⟨L,by rw[eV]⟩
 | b::r,L,h=>by
  rw[eV];obtain⟨l,hl⟩:=h b (by simp);rw[hl];exact sJ r _ (λb' hb=>h b' (by simp[hb]))
theorem ends_iff (G:List bY) {k:Nat} {l:List Nat} (h:uC G f k []=some l):iR G l=true↔∃ x,Rch G k x/\dU G x=true:=by
 unfold iR;rw[List.any_eq_true];constructor
 . rintro⟨x,hx,h'⟩;exact⟨x,(vA h x).1 hx,h'⟩
 rintro⟨x,hx,h'⟩;exact⟨x,(vA h x).2 hx,h'⟩
theorem zbD (G:List bY) {k:Nat} {l:List Nat} (h:uC G f k []=some l) (q:Nat) (hq:0<q) (XX:q<128):(aO G l).has q=true↔∃ x,Rch G k x/\aY G x=q:=by
 rw[zfL G l q hq XX];constructor
 . rintro⟨x,hx,h'⟩;exact⟨x,(vA h x).1 hx,h'⟩
 rintro⟨x,hx,h'⟩;exact⟨x,(vA h x).2 hx,h'⟩
theorem zeO :∀ (ts:List aJ) (i:Nat) (s:bA) (L:gK) (s2:bA) (L2:gK),fX f ts i s L=some (s2,L2)->1<=s.cL.length->L.cL=s.cL->L.fO.length=s.cL.length->L.rU.length=s.cL.length->
 L2.cL=s2.cL/\s2.cL=s.cL++ts.flatMap iZ/\s2.cL.length=s.cL.length+qQ ts/\L2.fO.length=s2.cL.length/\L2.rU.length=s2.cL.length/\s2.kN.length<=s.kN.length+mO ts/\
  (∀ k,(bC s2.kN k).length<=(bC s.kN k).length+mO ts)/\
  (∀ q,0<q->q<128->((L2.fO.getD 0 (0,0)).has q=true↔(L.fO.getD 0 (0,0)).has q=true\/fstA ts s.cL.length q))/\
  (∀ p,0<p->p<s.cL.length->L2.fO.getD p (0,0)=L.fO.getD p (0,0)/\L2.rU.getD p (-1)=L.rU.getD p (-1))/\L2.rU.getD 0 (-1)=L.rU.getD 0 (-1)/\
  (∀ p,s.cL.length<=p->p<s2.cL.length->(∀ q,0<q->q<128->((L2.fO.getD p (0,0)).has q=true↔folA ts s.cL.length p q))/\L2.rU.getD p (-1)=rulA ts i s.cL.length p)
 | [],i,s,L,s2,L2,h,hc,h1,h2,h3=>by
  rw[fX] at h;cases h;refine⟨h1,by simp,rfl,h2,h3,zR _,λ_=>zR _,λq _ _=>by simp[fstA],λp _ _=>⟨rfl,rfl⟩,rfl,λp h4 h5=>by omega⟩
 | t::r,i,s,L,s2,L2,h,hc,h1,h2,h3=>by
  rw[fX] at h;split at h
  . cases h
  rename_i e s1 e1
  obtain⟨bs,k1,k2,k3,k4,k5,k6,kd,k7,k8,k9⟩:=zeS hc e1;have kc:=nR t _ _ _ _ e1;have kc':s1.cL=s.cL++iZ t:=kc;split at h
  . cases h
  rename_i l0 e2
  split at h
  . cases h
  rename_i L1 e3
  have hb:s1.bE.drop s.bE.length=bs:=by rw[k1];simp
  rw[hb] at e3;obtain⟨a0,fl,rl,a1,a2,a3,a4,a5⟩:=zbE bs _ _ e3;have a0':L1.cL=s1.cL:=a0;have a1':L1.fO=L.fO.modify 0 (aW.or · (aO (s1.fI e).kN l0))++fl:=a1;have a2':L1.rU=L.rU++rl:=a2;have C4:(s1.fI e).cL=s1.cL:=rfl;have Uz:(s1.fI e).kN.length=s1.kN.length:=by simp[bA.fI]
  have C5:∀ k,bC (s1.fI e).kN k=bC s1.kN k:=λk=>oZ _ _ _;obtain⟨b1,b2,b3,b4,b5,bk,bd,b6,b7,b8,b9⟩:=zeO r (i+1) (s1.fI e) L1 s2 L2 h (by rw[C4];omega) (by rw[C4];exact a0') (by rw[C4,a1',zLn,List.length_modify];omega) (by rw[C4,a2',zLn];omega);rw[C4] at b2 b3 b6 b7 b9;rw[k3] at b6 b7 b9;have YM:∀ p,0<p->p<s.cL.length->L1.fO.getD p (0,0)=L.fO.getD p (0,0):=λp hp Qy=>by
   rw[a1',zLf,zGl (by rw[List.length_modify];omega),zc9 (by omega),<-zLf]
  have o4:L1.fO.getD 0 (0,0)=(L.fO.getD 0 (0,0)).or (aO (s1.fI e).kN l0):=by
   rw[a1',zLf,zGl (by rw[List.length_modify];omega),zc8,zLf,zLe (by omega)];rfl
  have Ds:∀ p,p<s.cL.length->L1.rU.getD p (-1)=L.rU.getD p (-1):=λp hp=>by
   rw[a2',zLf,zGl (by omega),<-zLf]
  refine⟨b1,by rw[b2,kc',List.flatMap_cons,List.append_assoc],by rw[b3,k3,qQ];omega,b4,b5,by rw[Uz] at bk;rw[mO];omega,λk=> ?_,λq hq XX=> ?_,λp hp Qy=> ?_,?_,λp hp Qy=> ?_⟩
  . have z1:=bd k
    have z2:=kd k;rw[C5] at z1;rw[mO];omega
  . rw[b6 q hq XX,o4,has_or,Bool.or_eq_true,zbD _ e2 q hq XX,k8 q hq,or_assoc]
    rfl
  . obtain⟨c1,c2⟩:=b7 p hp (by omega)
    exact⟨c1.trans (YM p hp Qy),c2.trans (Ds p Qy)⟩
  . rw[b8];exact Ds 0 (by omega)
  by_cases Hf:p<s.cL.length+eU t
  . obtain⟨c1,c2⟩:=b7 p (by omega) Hf
    obtain⟨x,rfl⟩:∃ x,p=s.cL.length+x:=⟨p-s.cL.length,by omega⟩;obtain⟨b,XR⟩:=zG bs x (by omega);obtain⟨lb,d1,d2,d3⟩:=a5 x b XR;obtain⟨g1,g2⟩:=k9 x b XR;have ef:L1.fO.getD (s.cL.length+x) (0,0)=aO (s1.fI e).kN lb:=by
     rw[a1',zLf,zGr (by rw[List.length_modify];omega),List.length_modify,show s.cL.length+x-L.fO.length=x by omega,d2];rfl
    have er:L1.rU.getD (s.cL.length+x) (-1)=if iR (s1.fI e).kN lb=true then (i:Int) else -1:=by
     rw[a2',zLf,zGr (by omega),show s.cL.length+x-L.rU.length=x by omega,d3];rfl
    refine⟨λq hq XX=> ?_,?_⟩
    . rw[c1,ef,zbD _ d1 q hq XX,g1 q hq,folA]
      constructor
      . exact .inl
      rintro (h'|h')
      . exact h'
      have:=folA_ge r _ _ _ h';omega
    rw[c2,er,rulA]
    have Gq:iR (s1.fI e).kN lb=true↔(s.cL.length+x)∈lT t s.cL.length:=by rw[ends_iff _ d1];exact g2
    by_cases hl:(s.cL.length+x)∈lT t s.cL.length
    . rw[zP hl,zP (Gq.2 hl)]
    rw[zN hl,zN (λh'=>hl (Gq.1 h')),zef _ _ _ _ Hf]
  obtain⟨g1,g2⟩:=b9 p (by omega) Qy
  refine⟨λq hq XX=> ?_,?_⟩
  . rw[g1 q hq XX,folA]
    constructor
    . exact .inr
    rintro (h'|h')
    . have:=kK t _ _ _ h';omega
    exact h'
  rw[g2,rulA,zN (λh'=>by have:=iC t _ _ h';omega)]
theorem zcc {M D:Nat} (hf:M*(D+2)+1<=f):∀ (ts:List aJ) (i:Nat) (s:bA) (L:gK),1<=s.cL.length->s.cL.length+qQ ts<=65->(∀ k,∀ j∈bC s.kN k,j<s.kN.length)->s.kN.length+mO ts<=M->(∀ k,(bC s.kN k).length+mO ts<=D)->
 ∃ s2 L2,fX f ts i s L=some (s2,L2)
 | [],i,s,L,_,_,_,_,_=>⟨s,L,by rw[fX]⟩
 | t::r,i,s,L,hc,hn,hl,hM,hD=>by
  rw[qQ] at hn;rw[mO] at hM;rw[fX];obtain⟨e,s1,e1⟩:=qO t s.kN.length (s.push ⟨[],0,false⟩) (by show s.cL.length+_<=65;omega);rw[e1];obtain⟨bs,k1,k2,k3,k4,k5,k6,kd,k7,_⟩:=zeS hc e1;have C5:∀ k,bC (s1.fI e).kN k=bC s1.kN k:=λk=>oZ _ _ _;have Uz:(s1.fI e).kN.length=s1.kN.length:=by simp[bA.fI]
  have hG:NetOk (s1.fI e).kN D:=⟨λk j hj=>by rw[C5] at hj;rw[Uz];exact k7 hl k j hj,λk=>by rw[C5];have:=kd k;have:=hD k;rw[mO] at this;omega⟩;have Jk:(s1.fI e).kN.length*(D+2)+1<=f:=by
   have:(s1.fI e).kN.length*(D+2)<=M*(D+2):=Nat.mul_le_mul_right _ (by rw[Uz];omega);omega
  obtain⟨l0,h0⟩:=zeA hG (k:=s.kN.length) (by rw[Uz];exact k5) Jk;simp only[h0];have hb:s1.bE.drop s.bE.length=bs:=by rw[k1];simp
  rw[hb];obtain⟨L1,h1⟩:=sJ (G:=(s1.fI e).kN) (f:=f) (i:=i) bs {L with cL:=s1.cL,fO:=L.fO.modify 0 (aW.or · (aO (s1.fI e).kN l0))} (λb hb=>zeA hG (by rw[Uz];exact k6 b hb) Jk);simp only[h1];refine zcc hf r (i+1) (s1.fI e) L1 (by show 1<=s1.cL.length;omega) (by show s1.cL.length+_<=65;omega) (λk j hj=>by rw[C5] at hj;rw[Uz];exact k7 hl k j hj) (by rw[Uz];omega) (λk=> ?_);rw[C5];have:=kd k;have:=hD k;rw[mO] at this;omega
structure zdA (L:gK) (ts:List aJ):Prop where
 cL:L.cL=[]::ts.flatMap iZ
 len:L.cL.length=qQ ts+1
 lr:L.rU.length=L.cL.length
 lf:L.fO.length=L.cL.length
 fok:∀ x∈L.fO,x.Ok
 fol0:∀ q,0<q->q<128->((L.fO.getD 0 (0,0)).has q=true↔fstA ts 1 q)
 fL:∀ p,1<=p->p<L.cL.length->∀ q,0<q->q<128->((L.fO.getD p (0,0)).has q=true↔folA ts 1 p q)
 rul0:L.rU.getD 0 (-1)= -1
 rul:∀ p,1<=p->p<L.cL.length->L.rU.getD p (-1)=rulA ts 0 1 p
theorem zak (hG:∀ k,aY G k<128):∀ (bs:List Nat) (L L2:gK),eV G f i bs L=some L2->(∀ x∈L.fO,x.Ok)->∀ x∈L2.fO,x.Ok
 | [],L,L2,h,hL=>by
  rw[eV] at h;cases h;exact hL
 | b::r,L,L2,h,hL=>by
  rw[eV] at h;split at h
  . cases h
  rename_i l hl
  refine zak hG r _ _ h λx hx=> ?_
  rcases List.mem_append.1 hx with hx|hx
  . exact hL x hx
  rw[zMs] at hx
  rw[hx];exact zdR G hG l (0,0) rZ
theorem zfG {α:Type} {f:α->α} {l:List α} {x:α} (h:x∈l.modify i f):x∈l\/∃ y∈l,x=f y:=by
 obtain⟨j,hj⟩:=List.mem_iff_getElem?.1 h;by_cases e:i=j
 . subst e
   rw[zc8] at hj;cases hl:l[i]? with
   | none=>rw[hl] at hj;cases hj
   | some y=>
    rw[hl] at hj;cases hj;exact .inr ⟨y,zM hl,rfl⟩
 rw[zc9 e] at hj
 exact .inl (zM hj)
theorem zc5 :∀ (ts:List aJ) (i:Nat) (s:bA) (L:gK) (s2:bA) (L2:gK),fX f ts i s L=some (s2,L2)->sR s->(∀ x∈L.fO,x.Ok)->∀ x∈L2.fO,x.Ok
 | [],i,s,L,s2,L2,h,_,hL=>by
  rw[fX] at h;cases h;exact hL
 | t::r,i,s,L,s2,L2,h,hs,hL=>by
  rw[fX] at h;split at h
  . cases h
  rename_i e s1 e1
  have qz:sR (s1.fI e):=(mZ t _ _ _ _ e1 (hs.push [] 0 false (by omega))).fI e;have hG:∀ k,aY (s1.fI e).kN k<128:=λk=>by have:=qz k;omega
  split at h
  . cases h
  rename_i l0 e2
  split at h
  . cases h
  rename_i L1 e3
  refine zc5 r _ _ _ _ _ h qz (zak hG _ _ _ e3 λx hx=> ?_)
  rcases zfG hx with hx|⟨y,hy,rfl⟩
  . exact hL x hx
  exact ok_or (hL y hy) (zdR _ hG l0 (0,0) rZ)
theorem yJ:∀ (ts:List aJ) (i n p:Nat),rulA ts i n p= -1\/∃ k,rulA ts i n p=((i+k:Nat):Int)/\k<ts.length
 | [],i,n,p=>.inl rfl
 | t::r,i,n,p=>by
  rw[rulA];split
  . exact .inr ⟨0,rfl,by simp⟩
  rcases yJ r (i+1) (n+eU t) p with h|⟨k,h,hk⟩
  . exact .inl h
  exact .inr ⟨k+1,by rw[h];congr 1;omega,by simp;omega⟩
theorem laid {ts:List aJ} {s2:bA} (h:fX f ts 0 jF jG=some (s2,L)):zdA L ts/\mS s2=mS s2/\s2.kN.length<=mO ts/\(∀ k,(bC s2.kN k).length<=mO ts)/\s2.cL.length=qQ ts+1:=by
 obtain⟨h1,h2,h3,h4,h5,h6,h7,h8,h9,eg,Um⟩:=zeO ts 0 jF jG s2 L h (by decide) rfl rfl rfl;have hl:L.cL.length=s2.cL.length:=by rw[h1]
 have h3':s2.cL.length=1+qQ ts:=h3;refine⟨⟨by rw[h1,h2];rfl,by omega,by omega,by omega,zc5 ts 0 _ _ _ _ h (λi=>by simp[aY,jF]) (λx hx=>by simp[jG] at hx;subst hx;exact rZ),λq hq XX=> ?_,λp hp Qy q hq XX=>(Um p hp (by omega)).1 q hq XX,eg,λp hp Qy=>(Um p hp (by omega)).2⟩,rfl,by simpa[jF] using h6,λk=>by have:=h7 k;simpa[bC,jF] using this,by omega⟩;rw[h8 q hq XX];constructor
 . rintro (h|h)
   . rw[show jG.fO.getD 0 (0,0)=(0,0) from rfl,nQ] at h;cases h
   exact h
 exact .inr
theorem comp_laid {sT:List ByteArray} {tR:List aJ} {s2:bA} (n1:1<=sT.length) (n8:sT.length<=8) (small:∀ s∈sT,s.size<=60)
 (parse:∀ (i:Nat) (s:ByteArray),sT[i]?=some s->∃ t,tR[i]?=some t/\fZ s=.ok t) (len:tR.length=sT.length) (xp:qQ tR<=64) (hcst:mO tR<=1000000)
 (hrng:∀ c∈tR.flatMap iZ,gA c) (hcuts:(eJ ([]::tR.flatMap iZ)).length<1000000) (yy:fX f tR 0 jF jG=some (s2,L)) (rU:List Int) (gO:List (List Int))
 (hm:bU L ((bB L.cL).map (bG L.cL)) 202 [(1,0)] [] []=some (rU,gO)):
  ∃ sE fb Hj b2,pI L ((bB L.cL).map (bG L.cL)) sE rU gO/\rU.length=sE.length/\
   bZ ⟨bB L.cL,rU,gO,0⟩ fb gO.length 0 0 ⟨List.replicate gO.length 0,List.replicate gO.length 0,false⟩=some (Hj,b2)/\
   Comp sT ⟨bB L.cL,rU,gO,if b2.round then -1 else Hj+1⟩ f tR s2 L rU gO sT.length fb Hj b2:=by
 obtain⟨hS,_,hk,hd,hc⟩:=laid yy;obtain⟨sE,h1,h2⟩:=make_spec hm;have hr:∀ c∈L.cL,gA c:=λc hc=>by
  rw[hS.cL] at hc
  rcases List.mem_cons.1 hc with rfl|hc
  . intro r hr;cases hr
  exact hrng c hc
 have hR:∀ x∈L.rU,x<(sT.length:Int):=λx hx=>by
  obtain⟨p,hp⟩:=List.mem_iff_getElem?.1 hx;have jh:=(List.getElem?_eq_some_iff.1 hp).1;have hg:L.rU.getD p (-1)=x:=by rw[zLf,hp];rfl
  rcases Nat.eq_zero_or_pos p with rfl|h0
  . rw[hS.rul0] at hg;omega
  rw[hS.rul p h0 (by rw[<-hS.lr];exact jh)] at hg
  rcases yJ tR 0 1 p with h|⟨k,h,hk⟩<;>omega
 have hW:=wf_made hr hR h1 h2 0;have hz:=h1.max;have Dd:=h1.lg;obtain⟨fb,Hj,b2,hb,W7⟩:=zfl hW (by show gO.length<=201;omega);refine⟨sE,fb,Hj,b2,h1,h2,hb,n1,n8,small,parse,len,yy,⟨λk=>zT (hd k) hcst,by omega,by omega⟩,by rw[hS.len];omega,by rw[hS.len];omega,hr,by rw[hS.cL];exact hcuts,hS.lr,hS.lf,hS.fok,hm,hW,hb,W7,by omega,rfl⟩
