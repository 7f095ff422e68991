/- Part of a proof. No condition. -/
import Derived.Test.YtghpmhllpaheiaaGreatDoorF18
import Derived.Test.YtghpmhllpaheiaaGreatDoorF31
set_option linter.unusedVariables false
set_option linter.unusedSimpArgs false
namespace Go.Proofs.YtghpmhllpaheiaaGreatDoor
variable {G:List bY} {Z:Nat->Prop}
mutual
def eU:aJ->Nat
 | .cL _=>1
 | .row l=>iE l
 | .either a b=>eU a+eU b
 | .rep t _ _=>eU t
def iE:List aJ->Nat
 | []=>0
 | t::l=>eU t+iE l
end
mutual
def rW:aJ->Bool
 | .cL _=>false
 | .row l=>nulR l
 | .either a b=>rW a||rW b
 | .rep t m _=>rW t||decide (m=0)
def nulR:List aJ->Bool
 | []=>true
 | t::l=>rW t&&nulR l
end
mutual
def rI:aJ->Nat->List Nat
 | .cL _,n=>[n]
 | .row l,n=>fstR l n
 | .either a b,n=>rI a n++rI b (n+eU a)
 | .rep t _ _,n=>rI t n
def fstR:List aJ->Nat->List Nat
 | [],_=>[]
 | t::l,n=>rI t n++(if rW t=true then fstR l (n+eU t) else[])
end
mutual
def lT:aJ->Nat->List Nat
 | .cL _,n=>[n]
 | .row l,n=>lstR l n
 | .either a b,n=>lT a n++lT b (n+eU a)
 | .rep t _ _,n=>lT t n
def lstR:List aJ->Nat->List Nat
 | [],_=>[]
 | t::l,n=>(if nulR l=true then lT t n else[])++lstR l (n+eU t)
end
mutual
def mG:aJ->Nat->Nat->Nat->Prop
 | .cL _,_,_,_=>False
 | .row l,n,p,q=>xV l n p q
 | .either a b,n,p,q=>mG a n p q\/mG b (n+eU a) p q
 | .rep t _ once,n,p,q=>mG t n p q\/(once=false/\p∈lT t n/\q∈rI t n)
def xV:List aJ->Nat->Nat->Nat->Prop
 | [],_,_,_=>False
 | t::l,n,p,q=>mG t n p q\/xV l (n+eU t) p q\/(p∈lT t n/\q∈fstR l (n+eU t))
end
mutual
def jL:aJ->Nat
 | .cL _=>2
 | .row l=>oH l
 | .either a b=>jL a+jL b+4
 | .rep t _ _=>jL t+5
def oH:List aJ->Nat
 | []=>0
 | t::l=>jL t+oH l
end
mutual
def iZ:aJ->List (List (Int×Int))
 | .cL c=>[c]
 | .row l=>pF l
 | .either a b=>iZ a++iZ b
 | .rep t _ _=>iZ t
def pF:List aJ->List (List (Int×Int))
 | []=>[]
 | t::l=>iZ t++pF l
end
mutual
theorem iC:∀ (t:aJ) (n p:Nat),p∈lT t n->n<=p/\p<n+eU t
 | .cL c,n,p,h=>by simp[lT] at h;simp[eU];omega
 | .row l,n,p,h=>by rw[lT] at h;rw[eU];exact zce l n p h
 | .either a b,n,p,h=>by
  rw[lT,zMa] at h;rw[eU]
  rcases h with h|h
  . have:=iC a n p h;omega
  . have:=iC b _ p h;omega
 | .rep t m o,n,p,h=>by rw[lT] at h;rw[eU];exact iC t n p h
theorem zce:∀ (l:List aJ) (n p:Nat),p∈lstR l n->n<=p/\p<n+iE l
 | [],n,p,h=>by simp[lstR] at h
 | t::l,n,p,h=>by
  rw[lstR,zMa] at h;rw[iE]
  rcases h with h|h
  . split at h
    . have:=iC t n p h;omega
    cases h
  have:=zce l _ p h;omega
end
mutual
theorem kK:∀ (t:aJ) (n p q:Nat),mG t n p q->n<=p/\p<n+eU t
 | .cL c,n,p,q,h=>by rw[mG] at h;exact h.elim
 | .row l,n,p,q,h=>by rw[mG] at h;rw[eU];exact zb5 l n p q h
 | .either a b,n,p,q,h=>by
  rw[mG] at h;rw[eU]
  rcases h with h|h
  . have:=kK a n p q h;omega
  . have:=kK b _ p q h;omega
 | .rep t m o,n,p,q,h=>by
  rw[mG] at h;rw[eU]
  rcases h with h|h
  . exact kK t n p q h
  exact iC t n p h.2.1
theorem zb5:∀ (l:List aJ) (n p q:Nat),xV l n p q->n<=p/\p<n+iE l
 | [],n,p,q,h=>by rw[xV] at h;exact h.elim
 | t::l,n,p,q,h=>by
  rw[xV] at h;rw[iE]
  rcases h with h|h|h
  . have:=kK t n p q h;omega
  . have:=zb5 l _ p q h;omega
  have:=iC t n p h.1;omega
end
theorem pW (s:bA) (k:bY) (j:Nat):bC (s.push k).kN j=if j=s.kN.length then k.to else bC s.kN j:=by
 show bC (s.kN++[k]) j=_;unfold bC
 rcases Nat.lt_trichotomy j s.kN.length with h|h|h
 . rw[zGl h,zN (by omega)]
 . subst h;simp
 rw[zN (by omega),zGr (by omega),zGn (l:=s.kN) (by omega),zGn (by simp;omega)]
theorem pS (s:bA) (k:bY) (j:Nat):aY (s.push k).kN j=if j=s.kN.length then k.place else aY s.kN j:=by
 show aY (s.kN++[k]) j=_;unfold aY
 rcases Nat.lt_trichotomy j s.kN.length with h|h|h
 . rw[zGl h,zN (by omega)]
 . subst h;simp
 rw[zN (by omega),zGr (by omega),zGn (l:=s.kN) (by omega),zGn (by simp;omega)]
theorem oR (s:bA) (k:bY) (j:Nat):dU (s.push k).kN j=if j=s.kN.length then k.fin else dU s.kN j:=by
 show dU (s.kN++[k]) j=_;unfold dU
 rcases Nat.lt_trichotomy j s.kN.length with h|h|h
 . rw[zGl h,zN (by omega)]
 . subst h;simp
 rw[zN (by omega),zGr (by omega),zGn (l:=s.kN) (by omega),zGn (by simp;omega)]
theorem pV (s:bA) (i:Nat) (l:List Nat) (j:Nat) (hi:i<s.kN.length):bC (s.link i l).kN j=if j=i then bC s.kN j++l else bC s.kN j:=by
 show bC (s.kN.modify i (nT l)) j=_;split
 . rename_i h;subst h;exact qW hi
 rename_i h;exact zax (Ne.symm h)
theorem vQ (s:bA) (i:Nat) (l:List Nat) (j:Nat):aY (s.link i l).kN j=aY s.kN j:=pT (f:=nT l) (λ_=>rfl) i j
theorem qM (s:bA) (i:Nat) (l:List Nat) (j:Nat):dU (s.link i l).kN j=dU s.kN j:=zcT (f:=nT l) (λ_=>rfl) i j
theorem cI (s:bA) (k:bY):(s.push k).kN.length=s.kN.length+1:=by show (s.kN++[k]).length=_;simp
theorem jP (s:bA) (i:Nat) (l:List Nat):(s.link i l).kN.length=s.kN.length:=by show (s.kN.modify i (nT l)).length=_;simp
theorem gH (G:List bY) (k:Nat) (h:G.length<=k):bC G k=[]:=by unfold bC;rw[zGn h];rfl
theorem nJ (G:List bY) (k:Nat) (h:G.length<=k):aY G k=0:=by unfold aY;rw[zGn h];rfl
theorem mF (G:List bY) (k:Nat) (h:G.length<=k):dU G k=false:=by unfold dU;rw[zGn h];rfl
def lU (G:List bY) (Z:Nat->Prop):Nat->Nat->Prop
 | 0,k=>Z k
 | m+1,k=>Z k\/∃ j∈bC G k,lU G Z m j
theorem lU.up :∀ {m k:Nat},lU G Z m k->lU G Z (m+1) k
 | 0,k,h=>.inl h
 | m+1,k,h=>by
  rcases h with h|⟨j,hj,h⟩
  . exact .inl h
  exact .inr ⟨j,hj,h.up⟩
theorem lU.mono {m m' k:Nat} (h:lU G Z m k) (hm:m<=m'):lU G Z m' k:=by
 induction hm with
 | refl=>exact h
 | step _ ih=>exact ih.up
theorem lU.cons {m k j:Nat} (hj:j∈bC G k) (h:lU G Z m j):lU G Z (m+1) k:=.inr ⟨j,hj,h⟩
structure dJ (G:List bY) (Z ZP:Nat->Prop) (s s':bA) (e:Nat):Prop where
 lk:∀ k,s.kN.length<=k->k<s'.kN.length->k≠e->bC G k=bC s'.kN k
 z:∀ k,s.kN.length<=k->k<s'.kN.length->k≠e->(Z k↔0<aY s'.kN k/\ZP (aY s'.kN k))
structure NetR (nP c:Nat) (nu:Bool) (fs ls:List Nat) (fo:Nat->Nat->Prop) (i e:Nat) (s s':bA) (Lnk bs:List Nat):Prop where
 cL:s'.cL.length=s.cL.length+nP
 beh:s'.bE=s.bE++bs
 bl:bs.length=nP
 len:s.kN.length<=s'.kN.length
 len2:s'.kN.length<=s.kN.length+c
 fin:(e=i/\s'=s/\nu=true/\fs=[]/\Lnk=[])\/(s.kN.length<=e/\e<s'.kN.length)
 old:∀ k,k<s.kN.length->k≠i->bC s'.kN k=bC s.kN k
 aQ:bC s'.kN i=bC s.kN i++Lnk
 oldp:∀ k,k<s.kN.length->aY s'.kN k=aY s.kN k/\dU s'.kN k=dU s.kN k
 e0:s.kN.length<=e->bC s'.kN e=[]/\aY s'.kN e=0
 nfin:∀ k,s.kN.length<=k->dU s'.kN k=false
 lnk:∀ j∈Lnk,j<s'.kN.length
 link:∀ k,s.kN.length<=k->∀ j∈bC s'.kN k,j<s'.kN.length
 deg:∀ k,(bC s'.kN k).length<=(bC s.kN k).length+c
 bsr:∀ b∈bs,b<s'.kN.length
 fwd:∀ G Z ZP,dJ G Z ZP s s' e->∀ m,(∃ j∈Lnk,lU G Z m j)->(∃ p∈fs,ZP p)\/(nu=true/\e≠i/\lU G Z m e)
 bwd1:∀ G Z ZP,dJ G Z ZP s s' e->∀ p∈fs,ZP p->∃ m,∃ j∈Lnk,lU G Z m j
 bwd2:∀ G Z ZP,dJ G Z ZP s s' e->nu=true->e≠i->∀ m,lU G Z m e->∃ m',∃ j∈Lnk,lU G Z m' j
 bf:∀ G Z ZP,dJ G Z ZP s s' e->∀ x b,bs[x]?=some b->∀ m,lU G Z m b->(∃ q,fo (s.cL.length+x) q/\ZP q)\/((s.cL.length+x)∈ls/\lU G Z m e)
 bb1:∀ G Z ZP,dJ G Z ZP s s' e->∀ x b q,bs[x]?=some b->fo (s.cL.length+x) q->ZP q->∃ m,lU G Z m b
 bb2:∀ G Z ZP,dJ G Z ZP s s' e->∀ x b,bs[x]?=some b->(s.cL.length+x)∈ls->∀ m,lU G Z m e->∃ m',lU G Z m' b
theorem net_cls (c:List (Int×Int)) {i:Nat} {s:bA} (hi:i<s.kN.length) (hc:1<=s.cL.length):
 NetR 1 2 false [s.cL.length] [s.cL.length] (λ_ _=>False) i s.kN.length s {(((s.push ⟨[],0,false⟩).push ⟨[],s.cL.length,false⟩).link i [s.kN.length+1]) with cL:=s.cL++[c],bE:=s.bE++[s.kN.length]} [s.kN.length+1] [s.kN.length]:=by
 have kx:i<((s.push ⟨[],0,false⟩).push ⟨[],s.cL.length,false⟩).kN.length:=by rw[cI,cI];omega
 have XC:∀ k,bC (((s.push ⟨[],0,false⟩).push ⟨[],s.cL.length,false⟩).link i [s.kN.length+1]).kN k=if k=i then bC s.kN k++[s.kN.length+1] else if k=s.kN.length\/k=s.kN.length+1 then[] else bC s.kN k:=λk=>by
  rw[pV _ _ _ _ kx,pW,pW,cI];by_cases h1:k=i
  . subst h1
    rw[zP rfl,zP rfl,zN (by omega),zN (by omega)]
  rw[zN h1,zN h1]
  by_cases h2:k=s.kN.length+1
  . rw[zP h2,zP (.inr h2)]
  rw[zN h2]
  by_cases h3:k=s.kN.length
  . rw[zP h3,zP (.inl h3)]
  rw[zN h3,zN (by omega)]
 have xp:∀ k,aY (((s.push ⟨[],0,false⟩).push ⟨[],s.cL.length,false⟩).link i [s.kN.length+1]).kN k=if k=s.kN.length+1 then s.cL.length else if k=s.kN.length then 0 else aY s.kN k:=λk=>by
  rw[vQ,pS,pS,cI]
 have UA:∀ k,dU (((s.push ⟨[],0,false⟩).push ⟨[],s.cL.length,false⟩).link i [s.kN.length+1]).kN k=if k=s.kN.length+1 then false else if k=s.kN.length then false else dU s.kN k:=λk=>by
  rw[qM,oR,oR,cI]
 have Ko:(((s.push ⟨[],0,false⟩).push ⟨[],s.cL.length,false⟩).link i [s.kN.length+1]).kN.length=s.kN.length+2:=by rw[jP,cI,cI]
 have Lj:∀ G Z ZP,dJ G Z ZP s {(((s.push ⟨[],0,false⟩).push ⟨[],s.cL.length,false⟩).link i [s.kN.length+1]) with cL:=s.cL++[c],bE:=s.bE++[s.kN.length]} s.kN.length->bC G (s.kN.length+1)=[]/\(Z (s.kN.length+1)↔ZP s.cL.length):=λG Z ZP hG=>by
  have h1:=hG.lk (s.kN.length+1) (by omega) (by show _<(((s.push ⟨[],0,false⟩).push ⟨[],s.cL.length,false⟩).link i [s.kN.length+1]).kN.length;omega) (by omega);have h2:=hG.z (s.kN.length+1) (by omega) (by show _<(((s.push ⟨[],0,false⟩).push ⟨[],s.cL.length,false⟩).link i [s.kN.length+1]).kN.length;omega) (by omega);rw[show bC ({(((s.push ⟨[],0,false⟩).push ⟨[],s.cL.length,false⟩).link i [s.kN.length+1]) with cL:=s.cL++[c],bE:=s.bE++[s.kN.length]}:bA).kN (s.kN.length+1)=[] from by
   show bC (((s.push ⟨[],0,false⟩).push ⟨[],s.cL.length,false⟩).link i [s.kN.length+1]).kN _=[];rw[XC,zN (by omega),zP (.inr rfl)]] at h1
  rw[show aY ({(((s.push ⟨[],0,false⟩).push ⟨[],s.cL.length,false⟩).link i [s.kN.length+1]) with cL:=s.cL++[c],bE:=s.bE++[s.kN.length]}:bA).kN (s.kN.length+1)=s.cL.length from by
   show aY (((s.push ⟨[],0,false⟩).push ⟨[],s.cL.length,false⟩).link i [s.kN.length+1]).kN _=_;rw[xp,zP rfl]] at h2
  exact⟨h1,h2.trans ⟨λh=>h.2,λh=>⟨by omega,h⟩⟩⟩
 generalize (((s.push ⟨[],0,false⟩).push ⟨[],s.cL.length,false⟩).link i [s.kN.length+1])=s1 at XC xp UA Ko Lj;obtain⟨kn,cl,be⟩:=s1;refine⟨by simp,rfl,rfl,by show _<=kn.length;have:kn.length=_:=Ko;omega,by show kn.length<=_;have:kn.length=_:=Ko;omega,.inr ⟨zR _,by show _<kn.length;have:kn.length=_:=Ko;omega⟩,λk hk hn=> ?_,?_,λk hk=>⟨?_,?_⟩,λ_=>⟨?_,?_⟩,λk hk=> ?_,λj hj=> ?_,λk hk j hj=> ?_,λk=> ?_,λb hb=> ?_,?_,?_,?_,?_,?_,?_⟩
 . exact (XC k).trans (by rw[zN hn,zN (by omega)])
 . exact (XC i).trans (by rw[zP rfl])
 . exact (xp k).trans (by rw[zN (by omega),zN (by omega)])
 . exact (UA k).trans (by rw[zN (by omega),zN (by omega)])
 . exact (XC _).trans (by rw[zN (by omega),zP (.inl rfl)])
 . exact (xp _).trans (by rw[zN (by omega),zP rfl])
 . refine (UA k).trans ?_
   split
   . rfl
   split
   . rfl
   exact mF _ _ hk
 . have:kn.length=_:=Ko
   rw[zMs] at hj;show _<kn.length;omega
 . have h:=XC k
   have kw:j∈bC kn k:=hj;rw[show bC kn k=_ from h,zN (by omega)] at kw;split at kw
   . cases kw
   rw[gH _ _ hk] at kw;cases kw
 . have h:=XC k
   rw[show (bC ({kN:=kn,cL:=s.cL++[c],bE:=s.bE++[s.kN.length]}:bA).kN k)=_ from h];split
   . simp
   split<;>simp
 . have:kn.length=_:=Ko
   rw[zMs] at hb;show _<kn.length;omega
 . rintro G Z ZP hG m ⟨j,hj,hh⟩
   rw[zMs] at hj;subst hj;obtain⟨h1,h2⟩:=Lj G Z ZP hG;refine .inl ⟨_,by simp,h2.1 ?_⟩;cases m with
   | zero=>exact hh
   | succ m=>
    rcases hh with hh|⟨j,hj,_⟩
    . exact hh
    rw[h1] at hj;cases hj
 . rintro G Z ZP hG p hp hz
   rw[zMs] at hp;subst hp;exact⟨0,_,by simp,(Lj G Z ZP hG).2.2 hz⟩
 . intro G Z ZP hG h
   cases h
 . intro G Z ZP hG x b hb m hh
   refine .inr ?_;cases x with
   | zero=>simp at hb;subst hb;exact⟨by simp,hh⟩
   | succ x=>simp at hb
 . intro G Z ZP hG x b q hb h
   exact h.elim
 intro G Z ZP hG x b hb h m hh
 cases x with
 | zero=>simp at hb;subst hb;exact⟨m,hh⟩
 | succ x=>simp at hb
end Go.Proofs.YtghpmhllpaheiaaGreatDoor
namespace Go.Proofs.YtghpmhllpaheiaaGreatDoor
theorem net_nil (i:Nat) (s:bA) (hs:∀ k,s.kN.length<=k->dU s.kN k=false):NetR 0 0 true [] [] (λ_ _=>False) i i s s [] []:=by
 refine⟨rfl,by simp,rfl,zR _,zR _,.inl ⟨rfl,rfl,rfl,rfl,rfl⟩,λ_ _ _=>rfl,by simp,λ_ _=>⟨rfl,rfl⟩,λh=>⟨gH _ _ h,nJ _ _ h⟩,hs,λj hj=>(by cases hj),λk hk j hj=> ?_,λk=>by omega,λb hb=>(by cases hb),?_,?_,?_,?_,?_,?_⟩
 . rw[gH _ _ hk] at hj;cases hj
 . rintro G Z ZP hG m ⟨j,hj,_⟩;cases hj
 . intro G Z ZP hG p hp;cases hp
 . intro G Z ZP hG _ hn;exact absurd rfl hn
 . intro G Z ZP hG x b hb;simp at hb
 . intro G Z ZP hG x b q hb;simp at hb
 intro G Z ZP hG x b hb;simp at hb
theorem or_nil {α:Type} {l:List α} (h:∀ x,x∉l):l=[]:=List.eq_nil_iff_forall_not_mem.2 h
theorem net_comp {vd c1 nP2 c2:Nat} {nu1 nu2:Bool} {fs1 YO fs2 ls2:List Nat} {fo1 fo2:Nat->Nat->Prop} {i p e:Nat} {s s2 s3:bA} {L1 b1 L2 b2:List Nat} (hi:i<s.kN.length)
 (h1:NetR vd c1 nu1 fs1 YO fo1 i p s s2 L1 b1) (h2:NetR nP2 c2 nu2 fs2 ls2 fo2 p e s2 s3 L2 b2)
 (r1:∀ x,x∈YO->s.cL.length<=x/\x<s2.cL.length) (r2:∀ x y,fo1 x y->s.cL.length<=x/\x<s2.cL.length) (r3:∀ x,x∈ls2->s2.cL.length<=x/\x<s3.cL.length) (r4:∀ x y,fo2 x y->s2.cL.length<=x/\x<s3.cL.length):
 ∃ Lnk bs,NetR (vd+nP2) (c1+c2) (nu1&&nu2) (fs1++if nu1=true then fs2 else[]) ((if nu2=true then YO else[])++ls2) (λx y=>fo1 x y\/fo2 x y\/(x∈YO/\y∈fs2)) i e s s3 Lnk bs:=by
 have yu:=h1.cL;have Je:=h2.cL
 rcases h1.fin with⟨rfl,rfl,rfl,rfl,rfl⟩|⟨Tl,qz⟩
 ·
  have yj:vd=0:=by omega
  subst yj;have kx:YO=[]:=or_nil λx hx=>by have:=r1 x hx;omega
  subst kx;have QT:∀ x y,¬ fo1 x y:=λx y h=>by have:=r2 x y h;omega
  refine⟨L2,b2,?_⟩;have e1:(true&&nu2)=nu2:=by simp
  have e2:([]++if true=true then fs2 else[]:List Nat)=fs2:=by simp
  have e3:((if nu2=true then[] else[])++ls2:List Nat)=ls2:=by simp
  have e4:(λx y=>fo1 x y\/fo2 x y\/(x∈([]:List Nat)/\y∈fs2))=fo2:=by
   funext x y;simp[QT x y]
  rw[e1,e2,e3,e4,Nat.zero_add];exact⟨h2.cL,h2.beh,h2.bl,h2.len,zT h2.len2 (by omega),h2.fin,h2.old,h2.aQ,h2.oldp,h2.e0,h2.nfin,h2.lnk,h2.link,λk=>zT (h2.deg k) (by omega),h2.bsr,h2.fwd,h2.bwd1,h2.bwd2,h2.bf,h2.bb1,h2.bb2⟩
 . have Ju:p≠i:=by omega
   have Hg:=h2.len;have Ek:(e=p/\s3=s2/\nu2=true/\fs2=[]/\L2=[])\/(s2.kN.length<=e/\e<s3.kN.length):=h2.fin;have So:s.kN.length<=e:=by rcases Ek with h|h<;>omega
   have ow:e<s3.kN.length:=by rcases Ek with h|h<;>omega
   have Sq:e≠i:=by omega
   have X1:∀ G Z ZP,dJ G Z ZP s s3 e->dJ G Z ZP s s2 p:=λG Z ZP hG=>by
    refine⟨λk hk yi K1=> ?_,λk hk yi K1=> ?_⟩
    . have TI:k≠e:=by rcases Ek with h|h<;>omega
      rw[hG.lk k hk (by omega) TI,h2.old k yi K1]
    have TI:k≠e:=by rcases Ek with h|h<;>omega
    rw[hG.z k hk (by omega) TI,(h2.oldp k yi).1]
   have JS:∀ G Z ZP,dJ G Z ZP s s3 e->dJ G Z ZP s2 s3 e:=λG Z ZP hG=>⟨λk hk yi TI=>hG.lk k (by omega) yi TI,λk hk yi TI=>hG.z k (by omega) yi TI⟩;have gp:∀ G Z ZP,dJ G Z ZP s s3 e->e≠p->bC G p=L2/\¬ Z p:=λG Z ZP hG hn=>by
    have a:=hG.lk p Tl (by omega) (Ne.symm hn);have b:=hG.z p Tl (by omega) (Ne.symm hn);rw[h2.aQ,(h1.e0 Tl).1,List.nil_append] at a;rw[(h2.oldp p qz).1,(h1.e0 Tl).2] at b;exact⟨a,λh=>by have:=(b.1 h).1;omega⟩
   have Gt:∀ G Z ZP,dJ G Z ZP s s3 e->e≠p->∀ m,lU G Z m p->∃ m',m'<=m/\∃ j∈L2,lU G Z m' j:=λG Z ZP hG hn m hh=>by
    obtain⟨a,b⟩:=gp G Z ZP hG hn;cases m with
    | zero=>exact absurd hh b
    | succ m=>
     rcases hh with hh|⟨j,hj,hh⟩
     . exact absurd hh b
     rw[a] at hj;exact⟨m,by omega,j,hj,hh⟩
   have phit:∀ G Z ZP,dJ G Z ZP s s3 e->e≠p->∀ m,(∃ j∈L2,lU G Z m j)->lU G Z (m+1) p:=λG Z ZP hG hn m ⟨j,hj,hh⟩=>lU.cons (by rw[(gp G Z ZP hG hn).1];exact hj) hh;have qo:∀ {P:Prop},e=p->(nu2=true->fs2=[]->P)->P:=λhe hP=>by
    rcases Ek with h|h
    . exact hP h.2.2.1 h.2.2.2.1
    omega
   have AB:∀ x b,(b1++b2)[x]?=some b->(x<vd/\b1[x]?=some b)\/(vd<=x/\b2[x-vd]?=some b):=λx b hb=>by
    rcases zLg x vd with hx|hx
    . rw[zGl (by rw[h1.bl];exact hx)] at hb
      exact .inl ⟨hx,hb⟩
    rw[zGr (by rw[h1.bl];exact hx),h1.bl] at hb
    exact .inr ⟨hx,hb⟩
   refine⟨L1,b1++b2,by omega,by rw[h2.beh,h1.beh,List.append_assoc],by rw[zLn,h1.bl,h2.bl],zT h1.len h2.len,by have:=h1.len2;have:=h2.len2;omega,.inr ⟨So,ow⟩,λk hk hn=> ?_,?_,λk hk=> ?_,λ_=> ?_,λk hk=> ?_,λj hj=> ?_,λk hk j hj=> ?_,λk=> ?_,λb hb=> ?_,?_,?_,?_,?_,?_,?_⟩
   . rw[h2.old k (by omega) (by omega),h1.old k hk hn]
   . rw[h2.old i (by omega) (by omega),h1.aQ]
   . have a:=h2.oldp k (by omega)
     have b:=h1.oldp k hk;exact⟨a.1.trans b.1,a.2.trans b.2⟩
   . rcases Ek with h|h
     . obtain⟨rfl,rfl,_⟩:=h
       exact h1.e0 Tl
     exact h2.e0 h.1
   . rcases zLg k s2.kN.length with h|h
     . rw[(h2.oldp k h).2];exact h1.nfin k hk
     exact h2.nfin k h
   . have:=h1.lnk j hj;omega
   . rcases zLg k s2.kN.length with h|h
     . by_cases K1:k=p
       . subst K1
         rw[h2.aQ,zMa] at hj
         rcases hj with hj|hj
         . have:=h1.link k hk j hj;omega
         exact h2.lnk j hj
       rw[h2.old k h K1] at hj
       have:=h1.link k hk j hj;omega
     exact h2.link k h j hj
   . have:=h1.deg k;have:=h2.deg k;omega
   . rcases List.mem_append.1 hb with h|h
     . have:=h1.bsr b h;omega
     exact h2.bsr b h
   . intro G Z ZP hG m hh
     rcases h1.fwd G Z ZP (X1 G Z ZP hG) m hh with⟨x,hx,hz⟩|⟨hn,_,hh⟩
     . exact .inl ⟨x,by simp[hx],hz⟩
     by_cases he:e=p
     . exact qo he λk1 _=>.inr ⟨by simp[hn,k1],Sq,by rw[he];exact hh⟩
     obtain⟨m',hm,hj⟩:=Gt G Z ZP hG he m hh
     rcases h2.fwd G Z ZP (JS G Z ZP hG) m' hj with⟨x,hx,hz⟩|⟨xo,_,hh⟩
     . exact .inl ⟨x,by simp[hn,hx],hz⟩
     exact .inr ⟨by simp[hn,xo],Sq,hh.mono hm⟩
   . intro G Z ZP hG x hx hz
     rw[zMa] at hx
     rcases hx with hx|hx
     . exact h1.bwd1 G Z ZP (X1 G Z ZP hG) x hx hz
     split at hx
     . rename_i hn
       by_cases he:e=p
       . exact qo he λ_ k2=>by rw[k2] at hx;cases hx
       obtain⟨m,hj⟩:=h2.bwd1 G Z ZP (JS G Z ZP hG) x hx hz
       exact h1.bwd2 G Z ZP (X1 G Z ZP hG) hn Ju _ (phit G Z ZP hG he m hj)
     cases hx
   . intro G Z ZP hG hn _ m hh
     rw[Bool.and_eq_true] at hn;by_cases he:e=p
     . exact h1.bwd2 G Z ZP (X1 G Z ZP hG) hn.1 Ju m (by rw[<-he];exact hh)
     obtain⟨m',hj⟩:=h2.bwd2 G Z ZP (JS G Z ZP hG) hn.2 he m hh
     exact h1.bwd2 G Z ZP (X1 G Z ZP hG) hn.1 Ju _ (phit G Z ZP hG he m' hj)
   . intro G Z ZP hG x b hb m hh
     rcases AB x b hb with⟨hx,hb⟩|⟨hx,hb⟩
     . rcases h1.bf G Z ZP (X1 G Z ZP hG) x b hb m hh with⟨q,hq,hz⟩|⟨hl,hh⟩
       . exact .inl ⟨q,.inl hq,hz⟩
       by_cases he:e=p
       . exact qo he λk1 _=>.inr ⟨by simp[k1,hl],by rw[he];exact hh⟩
       obtain⟨m',hm,hj⟩:=Gt G Z ZP hG he m hh
       rcases h2.fwd G Z ZP (JS G Z ZP hG) m' hj with⟨q,hq,hz⟩|⟨xo,_,hh⟩
       . exact .inl ⟨q,.inr (.inr ⟨hl,hq⟩),hz⟩
       exact .inr ⟨by simp[xo,hl],hh.mono hm⟩
     have ex:s2.cL.length+(x-vd)=s.cL.length+x:=by omega
     rcases h2.bf G Z ZP (JS G Z ZP hG) _ b hb m hh with⟨q,hq,hz⟩|⟨hl,hh⟩
     . exact .inl ⟨q,.inr (.inl (by rw[<-ex];exact hq)),hz⟩
     exact .inr ⟨by rw[<-ex];simp[hl],hh⟩
   . intro G Z ZP hG x b q hb hf hz
     rcases AB x b hb with⟨hx,hb⟩|⟨hx,hb⟩
     . rcases hf with hf|hf|⟨hl,hq⟩
       . exact h1.bb1 G Z ZP (X1 G Z ZP hG) x b q hb hf hz
       . have:=r4 _ _ hf;omega
       by_cases he:e=p
       . exact qo he λ_ k2=>by rw[k2] at hq;cases hq
       obtain⟨m,hj⟩:=h2.bwd1 G Z ZP (JS G Z ZP hG) q hq hz
       exact h1.bb2 G Z ZP (X1 G Z ZP hG) x b hb hl _ (phit G Z ZP hG he m hj)
     have ex:s2.cL.length+(x-vd)=s.cL.length+x:=by omega
     rcases hf with hf|hf|⟨hl,hq⟩
     . have:=r2 _ _ hf;omega
     . exact h2.bb1 G Z ZP (JS G Z ZP hG) _ b q hb (by rw[ex];exact hf) hz
     have:=r1 _ hl;omega
   intro G Z ZP hG x b hb hl m hh
   rw[zMa] at hl
   rcases AB x b hb with⟨hx,hb⟩|⟨hx,hb⟩
   . rcases hl with hl|hl
     . split at hl
       . rename_i xo
         by_cases he:e=p
         . exact h1.bb2 G Z ZP (X1 G Z ZP hG) x b hb hl m (by rw[<-he];exact hh)
         obtain⟨m',hj⟩:=h2.bwd2 G Z ZP (JS G Z ZP hG) xo he m hh
         exact h1.bb2 G Z ZP (X1 G Z ZP hG) x b hb hl _ (phit G Z ZP hG he m' hj)
       cases hl
     have:=r3 _ hl;omega
   have ex:s2.cL.length+(x-vd)=s.cL.length+x:=by omega
   rcases hl with hl|hl
   . split at hl
     . have:=r1 _ hl;omega
     cases hl
   exact h2.bb2 G Z ZP (JS G Z ZP hG) _ b hb (by rw[ex];exact hl) m hh
end Go.Proofs.YtghpmhllpaheiaaGreatDoor
namespace Go.Proofs.YtghpmhllpaheiaaGreatDoor
theorem zfH {vd c1 nP2 c2:Nat} {nu1 nu2:Bool} {fs1 YO fs2 ls2:List Nat} {fo1 fo2:Nat->Nat->Prop} {i p q:Nat} {s s1 s2 s3 s4:bA} {L1 b1 L2 b2:List Nat} (hi:i<s.kN.length)
 (ke:s1=(((s.push ⟨[],0,false⟩).push ⟨[],0,false⟩).push ⟨[],0,false⟩).link i [s.kN.length,s.kN.length+1])
 (h4s:s4=(s3.link p [s.kN.length+2]).link q [s.kN.length+2])
 (h1:NetR vd c1 nu1 fs1 YO fo1 s.kN.length p s1 s2 L1 b1) (h2:NetR nP2 c2 nu2 fs2 ls2 fo2 (s.kN.length+1) q s2 s3 L2 b2)
 (r1:∀ x,x∈YO->s.cL.length<=x/\x<s2.cL.length) (r2:∀ x y,fo1 x y->s.cL.length<=x/\x<s2.cL.length) (r3:∀ x,x∈ls2->s2.cL.length<=x/\x<s3.cL.length) (r4:∀ x y,fo2 x y->s2.cL.length<=x/\x<s3.cL.length):
 ∃ bs,NetR (vd+nP2) (c1+c2+4) (nu1||nu2) (fs1++fs2) (YO++ls2) (λx y=>fo1 x y\/fo2 x y) i (s.kN.length+2) s s4 [s.kN.length,s.kN.length+1] bs:=by
 have jh:i<(((s.push ⟨[],0,false⟩).push ⟨[],0,false⟩).push ⟨[],0,false⟩).kN.length:=by rw[cI,cI,cI];omega
 have YF:∀ k,bC s1.kN k=if k=i then bC s.kN k++[s.kN.length,s.kN.length+1] else bC s.kN k:=λk=>by
  rw[ke,pV _ _ _ _ jh,pW,pW,pW,cI,cI];by_cases e0:k=i
  . subst e0;rw[zP rfl,zP rfl,zN (by omega),zN (by omega),zN (by omega)]
  rw[zN e0,zN e0]
  by_cases e1:k=s.kN.length+1+1
  . rw[zP e1,gH _ _ (by omega)]
  rw[zN e1]
  by_cases e2:k=s.kN.length+1
  . rw[zP e2,gH _ _ (by omega)]
  rw[zN e2]
  by_cases e3:k=s.kN.length
  . rw[zP e3,gH _ _ (by omega)]
  rw[zN e3]
 have Jv:∀ k,aY s1.kN k=aY s.kN k:=λk=>by
  rw[ke,vQ,pS,pS,pS,cI,cI];by_cases e1:k=s.kN.length+1+1
  . rw[zP e1,nJ _ _ (by omega)]
  rw[zN e1]
  by_cases e2:k=s.kN.length+1
  . rw[zP e2,nJ _ _ (by omega)]
  rw[zN e2]
  by_cases e3:k=s.kN.length
  . rw[zP e3,nJ _ _ (by omega)]
  rw[zN e3]
 have AQ:∀ k,dU s1.kN k=dU s.kN k:=λk=>by
  rw[ke,qM,oR,oR,oR,cI,cI];by_cases e1:k=s.kN.length+1+1
  . rw[zP e1,mF _ _ (by omega)]
  rw[zN e1]
  by_cases e2:k=s.kN.length+1
  . rw[zP e2,mF _ _ (by omega)]
  rw[zN e2]
  by_cases e3:k=s.kN.length
  . rw[zP e3,mF _ _ (by omega)]
  rw[zN e3]
 have GE:s1.kN.length=s.kN.length+3:=by rw[ke,jP,cI,cI,cI]
 have KV:s1.cL=s.cL/\s1.bE=s.bE:=by rw[ke];exact⟨rfl,rfl⟩
 clear ke jh;have Yt:=h1.len;have P7:=h2.len;have hp:(p=s.kN.length/\s2=s1/\nu1=true/\fs1=[]/\L1=[])\/(s.kN.length+3<=p/\p<s2.kN.length):=by
  rcases h1.fin with h|h
  . exact .inl h
  exact .inr ⟨by omega,h.2⟩
 have hq:(q=s.kN.length+1/\s3=s2/\nu2=true/\fs2=[]/\L2=[])\/(s2.kN.length<=q/\q<s3.kN.length):=h2.fin;have yx:p<s3.kN.length:=by rcases hp with h|h<;>omega
 have S1:q<s3.kN.length:=by rcases hq with h|h<;>omega
 have xq:p≠q:=by rcases hp with h|h<;>rcases hq with h'|h'<;>omega
 have SM:s4.kN.length=s3.kN.length:=by rw[h4s,jP,jP]
 have Xc:∀ k,bC s4.kN k=if k=p\/k=q then bC s3.kN k++[s.kN.length+2] else bC s3.kN k:=λk=>by
  rw[h4s,pV _ _ _ _ (by rw[jP];exact S1),pV _ _ _ _ yx];by_cases e1:k=p
  . subst e1;rw[zN xq,zP rfl,zP (.inl rfl)]
  by_cases e2:k=q
  . subst e2;rw[zP rfl,zN e1,zP (.inr rfl)]
  rw[zN e2,zN e1,zN (by omega)]
 have Tm:∀ k,aY s4.kN k=aY s3.kN k:=λk=>by rw[h4s,vQ,vQ]
 have Gf:∀ k,dU s4.kN k=dU s3.kN k:=λk=>by rw[h4s,qM,qM]
 have YC:s4.cL=s3.cL/\s4.bE=s3.bE:=by rw[h4s];exact⟨rfl,rfl⟩
 clear h4s;have yu:=h1.cL;have Je:=h2.cL;rw[KV.1] at yu;have o3:∀ k,k<s.kN.length->bC s3.kN k=bC s1.kN k:=λk hk=>by rw[h2.old k (by omega) (by omega),h1.old k (by omega) (by omega)]
 have t0:bC s3.kN s.kN.length=L1:=by
  rw[h2.old _ (by omega) (by omega),h1.aQ,YF,zN (by omega),gH _ _ (zR _),List.nil_append]
 have t1:bC s3.kN (s.kN.length+1)=L2:=by
  rw[h2.aQ,h1.old _ (by omega) (by omega),YF,zN (by omega),gH _ _ (by omega),List.nil_append]
 have t2:bC s3.kN (s.kN.length+2)=[]:=by
  rw[h2.old _ (by omega) (by omega),h1.old _ (by omega) (by omega),YF,zN (by omega),gH _ _ (by omega)]
 have pz:∀ k,k<s.kN.length+3->s.kN.length<=k->aY s4.kN k=0:=λk hk yi=>by
  rw[Tm,(h2.oldp k (by omega)).1,(h1.oldp k (by omega)).1,Jv,nJ _ _ yi]
 have tp:s.kN.length+3<=p->p<s2.kN.length->bC s4.kN p=[s.kN.length+2]/\aY s4.kN p=0:=λha hb=>by
  have h:=h1.e0 (by omega);rw[Xc,zP (.inl rfl),Tm,h2.old p hb (by omega),(h2.oldp p hb).1,h.1,h.2];exact⟨rfl,rfl⟩
 have tq:s2.kN.length<=q->bC s4.kN q=[s.kN.length+2]/\aY s4.kN q=0:=λha=>by
  have h:=h2.e0 ha;rw[Xc,zP (.inr rfl),Tm,h.1,h.2];exact⟨rfl,rfl⟩
 have X1:∀ G Z ZP,dJ G Z ZP s s4 (s.kN.length+2)->dJ G Z ZP s1 s2 p:=λG Z ZP hG=>by
  refine⟨λk hk yi K1=> ?_,λk hk yi K1=> ?_⟩
  . have SI:k≠q:=by rcases hq with h|h<;>omega
    rw[hG.lk k (by omega) (by omega) (by omega),Xc,zN (by omega),h2.old k yi (by omega)]
  rw[hG.z k (by omega) (by omega) (by omega),Tm,(h2.oldp k yi).1]
 have JS:∀ G Z ZP,dJ G Z ZP s s4 (s.kN.length+2)->dJ G Z ZP s2 s3 q:=λG Z ZP hG=>by
  refine⟨λk hk yi SI=> ?_,λk hk yi K1=> ?_⟩
  . have K1:k≠p:=by rcases hp with h|h<;>omega
    rw[hG.lk k (by omega) (by omega) (by omega),Xc,zN (by omega)]
  rw[hG.z k (by omega) (by omega) (by omega),Tm]
 have nz:∀ G Z ZP,dJ G Z ZP s s4 (s.kN.length+2)->∀ k,s.kN.length<=k->k<s4.kN.length->k≠s.kN.length+2->aY s4.kN k=0->¬ Z k:=λG Z ZP hG k hk yi hn h0 hz=>by
  have:=(hG.z k hk yi hn).1 hz;omega
 have f0:∀ G Z ZP,dJ G Z ZP s s4 (s.kN.length+2)->∀ m,lU G Z m s.kN.length->(∃ x∈fs1,ZP x)\/(nu1=true/\lU G Z m (s.kN.length+2)):=λG Z ZP hG m hh=>by
  have hz:=nz G Z ZP hG s.kN.length (zR _) (by omega) (by omega) (pz _ (by omega) (zR _));have hg:=hG.lk s.kN.length (zR _) (by omega) (by omega);cases m with
  | zero=>exact absurd hh hz
  | succ m=>
   rcases hh with hh|⟨j,hj,hh⟩
   . exact absurd hh hz
   rw[hg,Xc] at hj
   rcases hp with⟨e1,e2,e3,e4,e5⟩|⟨ha,hb⟩
   . rw[zP (.inl e1.symm),t0,e5,List.nil_append,zMs] at hj
     subst hj;exact .inr ⟨e3,hh.up⟩
   have SI:s.kN.length≠q:=by rcases hq with h|h<;>omega
   rw[zN (by omega),t0] at hj
   rcases h1.fwd G Z ZP (X1 G Z ZP hG) m ⟨j,hj,hh⟩ with h|⟨hn,_,hh⟩
   . exact .inl h
   have Cz:=nz G Z ZP hG p (by omega) (by omega) (by omega) (tp ha hb).2
   have dz:=hG.lk p (by omega) (by omega) (by omega);cases m with
   | zero=>exact absurd hh Cz
   | succ m=>
    rcases hh with hh|⟨j,hj,hh⟩
    . exact absurd hh Cz
    rw[dz,(tp ha hb).1,zMs] at hj
    subst hj;exact .inr ⟨hn,hh.mono (by omega)⟩
 have f1:∀ G Z ZP,dJ G Z ZP s s4 (s.kN.length+2)->∀ m,lU G Z m (s.kN.length+1)->(∃ x∈fs2,ZP x)\/(nu2=true/\lU G Z m (s.kN.length+2)):=λG Z ZP hG m hh=>by
  have hz:=nz G Z ZP hG (s.kN.length+1) (by omega) (by omega) (by omega) (pz _ (by omega) (by omega));have hg:=hG.lk (s.kN.length+1) (by omega) (by omega) (by omega);cases m with
  | zero=>exact absurd hh hz
  | succ m=>
   rcases hh with hh|⟨j,hj,hh⟩
   . exact absurd hh hz
   rw[hg,Xc] at hj
   rcases hq with⟨e1,e2,e3,e4,e5⟩|⟨ha,hb⟩
   . rw[zP (.inr e1.symm),t1,e5,List.nil_append,zMs] at hj
     subst hj;exact .inr ⟨e3,hh.up⟩
   have K1:s.kN.length+1≠p:=by rcases hp with h|h<;>omega
   rw[zN (by omega),t1] at hj
   rcases h2.fwd G Z ZP (JS G Z ZP hG) m ⟨j,hj,hh⟩ with h|⟨hn,_,hh⟩
   . exact .inl h
   have It:=nz G Z ZP hG q (by omega) (by omega) (by omega) (tq ha).2
   have Em:=hG.lk q (by omega) (by omega) (by omega);cases m with
   | zero=>exact absurd hh It
   | succ m=>
    rcases hh with hh|⟨j,hj,hh⟩
    . exact absurd hh It
    rw[Em,(tq ha).1,zMs] at hj
    subst hj;exact .inr ⟨hn,hh.mono (by omega)⟩
 have gk0:∀ G Z ZP,dJ G Z ZP s s4 (s.kN.length+2)->∀ j∈L1,j∈bC G s.kN.length:=λG Z ZP hG j hj=>by
  rw[hG.lk s.kN.length (zR _) (by omega) (by omega),Xc,t0];split
  . simp[hj]
  exact hj
 have gk1:∀ G Z ZP,dJ G Z ZP s s4 (s.kN.length+2)->∀ j∈L2,j∈bC G (s.kN.length+1):=λG Z ZP hG j hj=>by
  rw[hG.lk (s.kN.length+1) (by omega) (by omega) (by omega),Xc,t1];split
  . simp[hj]
  exact hj
 have gp:∀ G Z ZP,dJ G Z ZP s s4 (s.kN.length+2)->s.kN.length+2∈bC G p:=λG Z ZP hG=>by
  have Qu:s.kN.length<=p:=by rcases hp with h|h<;>omega
  have ji:p≠s.kN.length+2:=by rcases hp with h|h<;>omega
  rw[hG.lk p Qu (by omega) ji,Xc,zP (.inl rfl)];simp
 have gq:∀ G Z ZP,dJ G Z ZP s s4 (s.kN.length+2)->s.kN.length+2∈bC G q:=λG Z ZP hG=>by
  have XB:s.kN.length<=q:=by rcases hq with h|h<;>omega
  have tx:q≠s.kN.length+2:=by rcases hq with h|h<;>omega
  rw[hG.lk q XB (by omega) tx,Xc,zP (.inr rfl)];simp
 have g0:∀ G Z ZP,dJ G Z ZP s s4 (s.kN.length+2)->nu1=true->∀ m,lU G Z m (s.kN.length+2)->∃ m',lU G Z m' s.kN.length:=λG Z ZP hG hn m hh=>by
  have JY:=lU.cons (gp G Z ZP hG) hh
  rcases hp with⟨e1,_⟩|⟨ha,hb⟩
  . exact⟨m+1,by rw[<-e1];exact JY⟩
  obtain⟨m',j,hj,hh⟩:=h1.bwd2 G Z ZP (X1 G Z ZP hG) hn (by omega) _ JY
  exact⟨m'+1,lU.cons (gk0 G Z ZP hG j hj) hh⟩
 have g1:∀ G Z ZP,dJ G Z ZP s s4 (s.kN.length+2)->nu2=true->∀ m,lU G Z m (s.kN.length+2)->∃ m',lU G Z m' (s.kN.length+1):=λG Z ZP hG hn m hh=>by
  have we:=lU.cons (gq G Z ZP hG) hh
  rcases hq with⟨e1,_⟩|⟨ha,hb⟩
  . exact⟨m+1,by rw[<-e1];exact we⟩
  obtain⟨m',j,hj,hh⟩:=h2.bwd2 G Z ZP (JS G Z ZP hG) hn (by omega) _ we
  exact⟨m'+1,lU.cons (gk1 G Z ZP hG j hj) hh⟩
 have AB:∀ x b,(b1++b2)[x]?=some b->(x<vd/\b1[x]?=some b)\/(vd<=x/\b2[x-vd]?=some b):=λx b hb=>by
  rcases zLg x vd with hx|hx
  . rw[zGl (by rw[h1.bl];exact hx)] at hb
    exact .inl ⟨hx,hb⟩
  rw[zGr (by rw[h1.bl];exact hx),h1.bl] at hb
  exact .inr ⟨hx,hb⟩
 have TN:0<vd->s.kN.length+3<=p/\p<s2.kN.length:=λh=>by
  rcases hp with⟨_,e,_⟩|h'
  . rw[e,KV.1] at yu;omega
  exact h'
 have C9:0<nP2->s2.kN.length<=q:=λh=>by
  rcases hq with⟨_,e,_⟩|h'
  . rw[e] at Je;omega
  exact h'.1
 have ji:∀ G Z ZP,dJ G Z ZP s s4 (s.kN.length+2)->s.kN.length+3<=p->p<s2.kN.length->∀ m,lU G Z m p->lU G Z m (s.kN.length+2):=λG Z ZP hG ha hb m hh=>by
  have Cz:=nz G Z ZP hG p (by omega) (by omega) (by omega) (tp ha hb).2;have dz:=hG.lk p (by omega) (by omega) (by omega);cases m with
  | zero=>exact absurd hh Cz
  | succ m=>
   rcases hh with hh|⟨j,hj,hh⟩
   . exact absurd hh Cz
   rw[dz,(tp ha hb).1,zMs] at hj
   subst hj;exact hh.up
 have tx:∀ G Z ZP,dJ G Z ZP s s4 (s.kN.length+2)->s2.kN.length<=q->∀ m,lU G Z m q->lU G Z m (s.kN.length+2):=λG Z ZP hG ha m hh=>by
  have It:=nz G Z ZP hG q (by omega) (by omega) (by omega) (tq ha).2;have Em:=hG.lk q (by omega) (by omega) (by omega);cases m with
  | zero=>exact absurd hh It
  | succ m=>
   rcases hh with hh|⟨j,hj,hh⟩
   . exact absurd hh It
   rw[Em,(tq ha).1,zMs] at hj
   subst hj;exact hh.up
 have kp:s1.cL.length=s.cL.length:=by rw[KV.1]
 refine⟨b1++b2,by rw[YC.1];omega,by rw[YC.2,h2.beh,h1.beh,KV.2,List.append_assoc],by rw[zLn,h1.bl,h2.bl],by omega,by have:=h1.len2;have:=h2.len2;omega,.inr ⟨by omega,by omega⟩,λk hk hn=> ?_,?_,λk hk=>⟨?_,?_⟩,λ_=>⟨?_,pz _ (by omega) (by omega)⟩,λk hk=> ?_,λj hj=> ?_,λk hk j hj=> ?_,λk=> ?_,λb hb=> ?_,?_,?_,?_,?_,?_,?_⟩
 . have a1:k≠p:=by rcases hp with h|h<;>omega
   have a2:k≠q:=by rcases hq with h|h<;>omega
   rw[Xc,zN (by omega),o3 k hk,YF,zN hn]
 . have a1:i≠p:=by rcases hp with h|h<;>omega
   have a2:i≠q:=by rcases hq with h|h<;>omega
   rw[Xc,zN (by omega),o3 i hi,YF,zP rfl]
 . rw[Tm,(h2.oldp k (by omega)).1,(h1.oldp k (by omega)).1,Jv]
 . rw[Gf,(h2.oldp k (by omega)).2,(h1.oldp k (by omega)).2,AQ]
 . have a1:s.kN.length+2≠p:=by rcases hp with h|h<;>omega
   have a2:s.kN.length+2≠q:=by rcases hq with h|h<;>omega
   rw[Xc,zN (by omega),t2]
 . rw[Gf]
   rcases zLg k s2.kN.length with h|h
   . rw[(h2.oldp k h).2]
     rcases zLg k s1.kN.length with h'|h'
     . rw[(h1.oldp k h').2,AQ,mF _ _ hk]
     exact h1.nfin k h'
   exact h2.nfin k h
 . simp at hj;omega
 . have key:∀ j∈bC s3.kN k,j<s3.kN.length:=λj hj=>by
    rcases zLg k s2.kN.length with h|h
    . by_cases e1:k=s.kN.length+1
      . subst e1;rw[t1] at hj;exact h2.lnk j hj
      rw[h2.old k h e1] at hj
      rcases zLg k s1.kN.length with h'|h'
      . by_cases e0:k=s.kN.length
        . subst e0
          rw[h1.aQ,YF,zN (by omega),gH _ _ (zR _),List.nil_append] at hj;have:=h1.lnk j hj;omega
        rw[h1.old k h' e0,YF,zN (by omega),gH _ _ hk] at hj
        cases hj
      have:=h1.link k h' j hj;omega
    exact h2.link k h j hj
   rw[Xc] at hj;split at hj
   . rw[zMa,zMs] at hj
     rcases hj with hj|hj
     . have:=key j hj;omega
     omega
   have:=key j hj;omega
 . have a1:=h1.deg k
   have a2:=h2.deg k;have a3:(bC s1.kN k).length<=(bC s.kN k).length+2:=by rw[YF];split<;>simp
   have a4:(bC s4.kN k).length<=(bC s3.kN k).length+1:=by rw[Xc];split<;>simp
   omega
 . rcases List.mem_append.1 hb with h|h
   . have:=h1.bsr b h;omega
   have:=h2.bsr b h;omega
 . rintro G Z ZP hG m ⟨j,hj,hh⟩
   simp only[List.mem_cons,List.not_mem_nil,or_false] at hj
   rcases hj with rfl|rfl
   . rcases f0 G Z ZP hG m hh with⟨x,hx,hz⟩|⟨hn,hh⟩
     . exact .inl ⟨x,by simp[hx],hz⟩
     exact .inr ⟨by simp[hn],by omega,hh⟩
   rcases f1 G Z ZP hG m hh with⟨x,hx,hz⟩|⟨hn,hh⟩
   . exact .inl ⟨x,by simp[hx],hz⟩
   exact .inr ⟨by simp[hn],by omega,hh⟩
 . intro G Z ZP hG x hx hz
   rw[zMa] at hx
   rcases hx with hx|hx
   . obtain⟨m,j,hj,hh⟩:=h1.bwd1 G Z ZP (X1 G Z ZP hG) x hx hz
     exact⟨m+1,_,by simp,lU.cons (gk0 G Z ZP hG j hj) hh⟩
   obtain⟨m,j,hj,hh⟩:=h2.bwd1 G Z ZP (JS G Z ZP hG) x hx hz
   exact⟨m+1,s.kN.length+1,by simp,lU.cons (gk1 G Z ZP hG j hj) hh⟩
 . intro G Z ZP hG hn _ m hh
   rw[Bool.or_eq_true] at hn
   rcases hn with hn|hn
   . obtain⟨m',h⟩:=g0 G Z ZP hG hn m hh
     exact⟨m',_,by simp,h⟩
   obtain⟨m',h⟩:=g1 G Z ZP hG hn m hh
   exact⟨m',s.kN.length+1,by simp,h⟩
 . intro G Z ZP hG x b hb m hh
   rcases AB x b hb with⟨hx,hb⟩|⟨hx,hb⟩
   . rcases h1.bf G Z ZP (X1 G Z ZP hG) x b hb m hh with⟨y,hy,hz⟩|⟨hl,hh⟩
     . exact .inl ⟨y,.inl (by rw[kp] at hy;exact hy),hz⟩
     obtain⟨ha,Q1⟩:=TN (by omega)
     exact .inr ⟨by rw[kp] at hl;simp[hl],ji G Z ZP hG ha Q1 m hh⟩
   have ex:s2.cL.length+(x-vd)=s.cL.length+x:=by omega
   have rd:x-vd<nP2:=by rw[<-h2.bl];exact (List.getElem?_eq_some_iff.1 hb).1
   rcases h2.bf G Z ZP (JS G Z ZP hG) _ b hb m hh with⟨y,hy,hz⟩|⟨hl,hh⟩
   . exact .inl ⟨y,.inr (by rw[<-ex];exact hy),hz⟩
   exact .inr ⟨by rw[<-ex];simp[hl],tx G Z ZP hG (C9 (by omega)) m hh⟩
 . intro G Z ZP hG x b y hb hf hz
   rcases AB x b hb with⟨hx,hb⟩|⟨hx,hb⟩
   . rcases hf with hf|hf
     . exact h1.bb1 G Z ZP (X1 G Z ZP hG) x b y hb (by rw[kp];exact hf) hz
     have:=r4 _ _ hf;omega
   have ex:s2.cL.length+(x-vd)=s.cL.length+x:=by omega
   rcases hf with hf|hf
   . have:=r2 _ _ hf;omega
   exact h2.bb1 G Z ZP (JS G Z ZP hG) _ b y hb (by rw[ex];exact hf) hz
 intro G Z ZP hG x b hb hl m hh
 rw[zMa] at hl
 rcases AB x b hb with⟨hx,hb⟩|⟨hx,hb⟩
 . rcases hl with hl|hl
   . exact h1.bb2 G Z ZP (X1 G Z ZP hG) x b hb (by rw[kp];exact hl) _ (lU.cons (gp G Z ZP hG) hh)
   have:=r3 _ hl;omega
 have ex:s2.cL.length+(x-vd)=s.cL.length+x:=by omega
 rcases hl with hl|hl
 . have:=r1 _ hl;omega
 exact h2.bb2 G Z ZP (JS G Z ZP hG) _ b hb (by rw[ex];exact hl) _ (lU.cons (gq G Z ZP hG) hh)
end Go.Proofs.YtghpmhllpaheiaaGreatDoor
namespace Go.Proofs.YtghpmhllpaheiaaGreatDoor
theorem net_rep {vd c1:Nat} {nu1 once:Bool} {m:Int} {fs1 YO:List Nat} {fo1:Nat->Nat->Prop} {i p:Nat} {s s1 s2 s3 s4 s5:bA} {L1 b1:List Nat} (hi:i<s.kN.length)
 (ke:s1=((s.push ⟨[],0,false⟩).push ⟨[],0,false⟩).link i [s.kN.length])
 (h3s:s3=s2.link p [s.kN.length+1]) (h4s:s4=if once=true then s3 else s3.link p [s.kN.length]) (h5s:s5=if m=0 then s4.link s.kN.length [s.kN.length+1] else s4)
 (h1:NetR vd c1 nu1 fs1 YO fo1 s.kN.length p s1 s2 L1 b1)
 (r1:∀ x,x∈YO->s.cL.length<=x/\x<s2.cL.length):
 ∃ bs,NetR vd (c1+5) (nu1||decide (m=0)) fs1 YO (λx y=>fo1 x y\/(once=false/\x∈YO/\y∈fs1)) i (s.kN.length+1) s s5 [s.kN.length] bs:=by
 have jh:i<((s.push ⟨[],0,false⟩).push ⟨[],0,false⟩).kN.length:=by rw[cI,cI];omega
 have YF:∀ k,bC s1.kN k=if k=i then bC s.kN k++[s.kN.length] else bC s.kN k:=λk=>by
  rw[ke,pV _ _ _ _ jh,pW,pW,cI];by_cases e0:k=i
  . subst e0;rw[zP rfl,zP rfl,zN (by omega),zN (by omega)]
  rw[zN e0,zN e0]
  by_cases e2:k=s.kN.length+1
  . rw[zP e2,gH _ _ (by omega)]
  rw[zN e2]
  by_cases e3:k=s.kN.length
  . rw[zP e3,gH _ _ (by omega)]
  rw[zN e3]
 have Jv:∀ k,aY s1.kN k=aY s.kN k:=λk=>by
  rw[ke,vQ,pS,pS,cI];by_cases e2:k=s.kN.length+1
  . rw[zP e2,nJ _ _ (by omega)]
  rw[zN e2]
  by_cases e3:k=s.kN.length
  . rw[zP e3,nJ _ _ (by omega)]
  rw[zN e3]
 have AQ:∀ k,dU s1.kN k=dU s.kN k:=λk=>by
  rw[ke,qM,oR,oR,cI];by_cases e2:k=s.kN.length+1
  . rw[zP e2,mF _ _ (by omega)]
  rw[zN e2]
  by_cases e3:k=s.kN.length
  . rw[zP e3,mF _ _ (by omega)]
  rw[zN e3]
 have GE:s1.kN.length=s.kN.length+2:=by rw[ke,jP,cI,cI]
 have KV:s1.cL=s.cL/\s1.bE=s.bE:=by rw[ke];exact⟨rfl,rfl⟩
 clear ke jh;have Yt:=h1.len;have hp:(p=s.kN.length/\s2=s1/\nu1=true/\fs1=[]/\L1=[])\/(s.kN.length+2<=p/\p<s2.kN.length):=by
  rcases h1.fin with h|h
  . exact .inl h
  exact .inr ⟨by omega,h.2⟩
 have Qy:p<s2.kN.length:=by rcases hp with h|h<;>omega
 have SN:s5.kN.length=s2.kN.length:=by
  rw[h5s,h4s,h3s];split<;>split<;>simp only[jP]
 have Ts:∀ k,bC s5.kN k=bC s2.kN k++((if k=p then (s.kN.length+1)::(if once=true then[] else[s.kN.length]) else[])++(if k=s.kN.length/\m=0 then[s.kN.length+1] else[])):=λk=>by
  have h3:bC s3.kN k=bC s2.kN k++(if k=p then[s.kN.length+1] else[]):=by
   rw[h3s,pV _ _ _ _ Qy];split<;>simp
  have P7:s3.kN.length=s2.kN.length:=by rw[h3s,jP]
  have h4:bC s4.kN k=bC s2.kN k++(if k=p then (s.kN.length+1)::(if once=true then[] else[s.kN.length]) else[]):=by
   rw[h4s];cases once with
   | true=>rw[zP rfl,h3];simp
   | false=>
    rw[zN (by decide),pV _ _ _ _ (by omega),h3];split<;>simp
  have GB:s4.kN.length=s2.kN.length:=by rw[h4s];split<;>simp only[jP,P7]
  rw[h5s];by_cases hm:m=0
  . rw[zP hm,pV _ _ _ _ (by omega),h4]
    by_cases hk:k=s.kN.length
    . rw[zP hk,zP (show k=s.kN.length/\m=0 from⟨hk,hm⟩),List.append_assoc]
    rw[zN hk,zN (λh:k=s.kN.length/\m=0=>hk h.1),List.append_nil]
  rw[zN hm,h4,zN (λh:k=s.kN.length/\m=0=>hm h.2),List.append_nil]
 have US:∀ k,aY s5.kN k=aY s2.kN k:=λk=>by
  rw[h5s,h4s,h3s];split<;>split<;>simp only[vQ]
 have Gg:∀ k,dU s5.kN k=dU s2.kN k:=λk=>by
  rw[h5s,h4s,h3s];split<;>split<;>simp only[qM]
 have F8:s5.cL=s2.cL/\s5.bE=s2.bE:=by
  rw[h5s,h4s,h3s];split<;>split<;>exact⟨rfl,rfl⟩
 clear h5s h4s h3s s3 s4;have yu:=h1.cL;rw[KV.1] at yu;have JE:∀ k j,j∈bC s5.kN k↔j∈bC s2.kN k\/(k=p/\(j=s.kN.length+1\/(once=false/\j=s.kN.length)))\/(k=s.kN.length/\m=0/\j=s.kN.length+1):=λk j=>by
  rw[Ts,zMa,zMa];refine or_congr Iff.rfl (or_congr ?_ ?_)
  . split
    . rename_i h
      cases once<;>simp[h]
    rename_i h
    simp[h]
  split
  . rename_i h
    simp[h.1,h.2]
  rename_i h
  constructor
  . intro h';cases h'
  rintro⟨h1,h2,_⟩;exact absurd ⟨h1,h2⟩ h
 have t0:bC s2.kN s.kN.length=L1:=by
  rw[h1.aQ,YF,zN (by omega),gH _ _ (zR _),List.nil_append]
 have t1:bC s2.kN (s.kN.length+1)=[]:=by
  rw[h1.old _ (by omega) (by omega),YF,zN (by omega),gH _ _ (by omega)]
 have pz:∀ k,k<s.kN.length+2->s.kN.length<=k->aY s5.kN k=0:=λk hk yi=>by
  rw[US,(h1.oldp k (by omega)).1,Jv,nJ _ _ yi]
 have tp:s.kN.length+2<=p->bC s2.kN p=[]/\aY s5.kN p=0:=λha=>by
  have h:=h1.e0 (by omega);rw[US];exact h
 have X1:∀ G Z ZP,dJ G Z ZP s s5 (s.kN.length+1)->dJ G Z ZP s1 s2 p:=λG Z ZP hG=>by
  refine⟨λk hk yi K1=> ?_,λk hk yi K1=> ?_⟩
  . rw[hG.lk k (by omega) (by omega) (by omega),Ts,zN K1,zN (by omega)]
    simp
  rw[hG.z k (by omega) (by omega) (by omega),US]
 have nz:∀ G Z ZP,dJ G Z ZP s s5 (s.kN.length+1)->∀ k,s.kN.length<=k->k<s5.kN.length->k≠s.kN.length+1->aY s5.kN k=0->¬ Z k:=λG Z ZP hG k hk yi hn h0 hz=>by
  have:=(hG.z k hk yi hn).1 hz;omega
 have f0:∀ G Z ZP,dJ G Z ZP s s5 (s.kN.length+1)->∀ n,lU G Z n s.kN.length->(∃ x∈fs1,ZP x)\/((nu1||decide (m=0))=true/\lU G Z n (s.kN.length+1)):=λG Z ZP hG n=>by
  induction n using Nat.strongRecOn with
  | _ n ih=>
   intro hh;have hz:=nz G Z ZP hG s.kN.length (zR _) (by omega) (by omega) (pz _ (by omega) (zR _));have hg:=hG.lk s.kN.length (zR _) (by omega) (by omega);cases n with
   | zero=>exact absurd hh hz
   | succ n=>
    rcases hh with hh|⟨j,hj,hh⟩
    . exact absurd hh hz
    rw[hg,JE,t0] at hj
    rcases hj with hj|⟨e,hj⟩|⟨_,hm,rfl⟩
    . rcases h1.fwd G Z ZP (X1 G Z ZP hG) n ⟨j,hj,hh⟩ with h|⟨hn,TN,hh⟩
      . exact .inl h
      have JY:s.kN.length+2<=p:=by rcases hp with h|h<;>omega
      have Cz:=nz G Z ZP hG p (by omega) (by omega) (by omega) (tp JY).2;have dz:=hG.lk p (by omega) (by omega) (by omega);cases n with
      | zero=>exact absurd hh Cz
      | succ n=>
       rcases hh with hh|⟨j,hj,hh⟩
       . exact absurd hh Cz
       rw[dz,JE,(tp JY).1] at hj
       rcases hj with hj|⟨_,rfl|⟨_,rfl⟩⟩|⟨hj,_⟩
       . cases hj
       . exact .inr ⟨by simp[hn],hh.mono (by omega)⟩
       . rcases ih n (by omega) hh with h|⟨h1,h2⟩
         . exact .inl h
         exact .inr ⟨h1,h2.mono (by omega)⟩
       omega
    . have hn:nu1=true:=by
       rcases hp with h|h
       . exact h.2.2.1
       omega
      rcases hj with rfl|⟨_,rfl⟩
      . exact .inr ⟨by simp[hn],hh.up⟩
      rcases ih n (by omega) hh with h|⟨h1,h2⟩
      . exact .inl h
      exact .inr ⟨h1,h2.up⟩
    exact .inr ⟨by simp[hm],hh.up⟩
 have gk0:∀ G Z ZP,dJ G Z ZP s s5 (s.kN.length+1)->∀ j∈L1,j∈bC G s.kN.length:=λG Z ZP hG j hj=>by
  rw[hG.lk s.kN.length (zR _) (by omega) (by omega),JE,t0];exact .inl hj
 have gp:∀ G Z ZP,dJ G Z ZP s s5 (s.kN.length+1)->s.kN.length+1∈bC G p:=λG Z ZP hG=>by
  have Qu:s.kN.length<=p:=by rcases hp with h|h<;>omega
  have ji:p≠s.kN.length+1:=by rcases hp with h|h<;>omega
  rw[hG.lk p Qu (by omega) ji,JE];exact .inr (.inl ⟨rfl,.inl rfl⟩)
 have gpn:∀ G Z ZP,dJ G Z ZP s s5 (s.kN.length+1)->once=false->s.kN.length∈bC G p:=λG Z ZP hG ho=>by
  have Qu:s.kN.length<=p:=by rcases hp with h|h<;>omega
  have ji:p≠s.kN.length+1:=by rcases hp with h|h<;>omega
  rw[hG.lk p Qu (by omega) ji,JE];exact .inr (.inl ⟨rfl,.inr ⟨ho,rfl⟩⟩)
 have TN:0<vd->s.kN.length+2<=p:=λh=>by
  rcases hp with⟨_,e,_⟩|h'
  . rw[e,KV.1] at yu;omega
  exact h'.1
 have Xo:∀ x b,b1[x]?=some b->s.kN.length+2<=p:=λx b hb=>by
  have:=(List.getElem?_eq_some_iff.1 hb).1;rw[h1.bl] at this;exact TN (by omega)
 have kp:s1.cL.length=s.cL.length:=by rw[KV.1]
 refine⟨b1,by rw[F8.1];omega,by rw[F8.2,h1.beh,KV.2],h1.bl,by omega,by have:=h1.len2;omega,.inr ⟨by omega,by omega⟩,λk hk hn=> ?_,?_,λk hk=>⟨?_,?_⟩,λ_=>⟨?_,pz _ (by omega) (by omega)⟩,λk hk=> ?_,λj hj=> ?_,λk hk j hj=> ?_,λk=> ?_,λb hb=> ?_,?_,?_,?_,?_,?_,?_⟩
 . have a1:k≠p:=by rcases hp with h|h<;>omega
   rw[Ts,zN a1,zN (by omega),h1.old k (by omega) (by omega),YF,zN hn];simp
 . have a1:i≠p:=by rcases hp with h|h<;>omega
   rw[Ts,zN a1,zN (by omega),h1.old i (by omega) (by omega),YF,zP rfl];simp
 . rw[US,(h1.oldp k (by omega)).1,Jv]
 . rw[Gg,(h1.oldp k (by omega)).2,AQ]
 . have a1:s.kN.length+1≠p:=by rcases hp with h|h<;>omega
   rw[Ts,zN a1,zN (by omega),t1];rfl
 . rw[Gg]
   rcases zLg k s1.kN.length with h'|h'
   . rw[(h1.oldp k h').2,AQ,mF _ _ hk]
   exact h1.nfin k h'
 . simp at hj;omega
 . rw[JE] at hj
   rcases hj with hj|⟨_,hj⟩|⟨_,_,hj⟩
   . rcases zLg k s1.kN.length with h'|h'
     . by_cases e0:k=s.kN.length
       . subst e0
         rw[t0] at hj;have:=h1.lnk j hj;omega
       rw[h1.old k h' e0,YF,zN (by omega),gH _ _ hk] at hj
       cases hj
     have:=h1.link k h' j hj;omega
   . omega
   omega
 . have a1:=h1.deg k
   have a3:(bC s1.kN k).length<=(bC s.kN k).length+1:=by rw[YF];split<;>simp
   have a4:(bC s5.kN k).length<=(bC s2.kN k).length+3:=by
    rw[Ts,zLn,zLn];have q1:(if k=p then (s.kN.length+1)::(if once=true then[] else[s.kN.length]) else[]).length<=2:=by
     split
     . cases once<;>simp
     simp
    have q2:(if k=s.kN.length/\m=0 then[s.kN.length+1] else[]).length<=1:=by split<;>simp
    omega
   omega
 . have:=h1.bsr b hb;omega
 . rintro G Z ZP hG n ⟨j,hj,hh⟩
   rw[zMs] at hj;subst hj
   rcases f0 G Z ZP hG n hh with h|⟨hn,hh⟩
   . exact .inl h
   exact .inr ⟨hn,by omega,hh⟩
 . intro G Z ZP hG x hx hz
   obtain⟨n,j,hj,hh⟩:=h1.bwd1 G Z ZP (X1 G Z ZP hG) x hx hz;exact⟨n+1,s.kN.length,List.mem_singleton.2 rfl,lU.cons (gk0 G Z ZP hG j hj) hh⟩
 . intro G Z ZP hG hn _ n hh
   rw[Bool.or_eq_true,decide_eq_true_eq] at hn
   rcases hn with hn|hn
   . have JY:=lU.cons (gp G Z ZP hG) hh
     rcases hp with⟨e1,_⟩|⟨ha,hb⟩
     . exact⟨n+1,s.kN.length,List.mem_singleton.2 rfl,e1▸JY⟩
     obtain⟨n',j,hj,hh⟩:=h1.bwd2 G Z ZP (X1 G Z ZP hG) hn (by omega) _ JY
     exact⟨n'+1,s.kN.length,List.mem_singleton.2 rfl,lU.cons (gk0 G Z ZP hG j hj) hh⟩
   refine⟨n+1,s.kN.length,List.mem_singleton.2 rfl,lU.cons (j:=s.kN.length+1) ?_ hh⟩
   rw[hG.lk s.kN.length (zR _) (by omega) (by omega),JE];exact .inr (.inr ⟨rfl,hn,rfl⟩)
 . intro G Z ZP hG x b hb n hh
   have JY:=Xo x b hb
   rcases h1.bf G Z ZP (X1 G Z ZP hG) x b hb n hh with⟨y,hy,hz⟩|⟨hl,hh⟩
   . exact .inl ⟨y,.inl (by rw[kp] at hy;exact hy),hz⟩
   rw[kp] at hl
   have Cz:=nz G Z ZP hG p (by omega) (by omega) (by omega) (tp JY).2;have dz:=hG.lk p (by omega) (by omega) (by omega);cases n with
   | zero=>exact absurd hh Cz
   | succ n=>
    rcases hh with hh|⟨j,hj,hh⟩
    . exact absurd hh Cz
    rw[dz,JE,(tp JY).1] at hj
    rcases hj with hj|⟨_,rfl|⟨ho,rfl⟩⟩|⟨hj,_⟩
    . cases hj
    . exact .inr ⟨hl,hh.up⟩
    . rcases f0 G Z ZP hG n hh with⟨y,hy,hz⟩|⟨_,hh⟩
      . exact .inl ⟨y,.inr ⟨ho,hl,hy⟩,hz⟩
      exact .inr ⟨hl,hh.up⟩
    omega
 . intro G Z ZP hG x b y hb hf hz
   rcases hf with hf|⟨ho,hl,hy⟩
   . exact h1.bb1 G Z ZP (X1 G Z ZP hG) x b y hb (by rw[kp];exact hf) hz
   obtain⟨n,j,hj,hh⟩:=h1.bwd1 G Z ZP (X1 G Z ZP hG) y hy hz
   exact h1.bb2 G Z ZP (X1 G Z ZP hG) x b hb (by rw[kp];exact hl) _ (lU.cons (gpn G Z ZP hG ho) (lU.cons (gk0 G Z ZP hG j hj) hh))
 intro G Z ZP hG x b hb hl n hh
 exact h1.bb2 G Z ZP (X1 G Z ZP hG) x b hb (by rw[kp];exact hl) _ (lU.cons (gp G Z ZP hG) hh)
mutual
theorem oT:∀ (t:aJ) (i:Nat) (s:bA) (e:Nat) (s':bA),i<s.kN.length->1<=s.cL.length->eD t i s=some (e,s')->
 ∃ Lnk bs,NetR (eU t) (jL t) (rW t) (rI t s.cL.length) (lT t s.cL.length) (mG t s.cL.length) i e s s' Lnk bs
 | .cL c,i,s,e,s',hi,hc,h=>by
  rw[eD] at h;split at h
  . cases h
  . cases h
    have hf:mG (.cL c) s.cL.length=λ_ _=>False:=by funext p q;rw[mG]
    rw[eU,jL,rW,rI,lT,hf];exact⟨_,_,net_cls c hi hc⟩
 | .row l,i,s,e,s',hi,hc,h=>by
  rw[eD] at h;have hf:mG (.row l) s.cL.length=xV l s.cL.length:=by funext p q;rw[mG]
  rw[eU,jL,rW,rI,lT,hf];exact net_row l i s e s' hi hc h
 | .either a b,i,s,e,s',hi,hc,h=>by
  rw[eD] at h;generalize ke:(((s.push ⟨[],0,false⟩).push ⟨[],0,false⟩).push ⟨[],0,false⟩).link i [s.kN.length,s.kN.length+1]=s1 at h;have kx:s1.kN.length=s.kN.length+3:=by rw[<-ke,jP,cI,cI,cI]
  have yu:s1.cL=s.cL:=by rw[<-ke];rfl
  split at h
  . cases h
  . rename_i p s2 e1
    split at h
    . cases h
    . rename_i q s3 e2
      obtain⟨L1,b1,n1⟩:=oT a s.kN.length s1 p s2 (by omega) (by rw[yu];exact hc) e1;have k1:=n1.cL;have k2:=n1.len;rw[yu] at n1 k1;obtain⟨L2,b2,n2⟩:=oT b (s.kN.length+1) s2 q s3 (by omega) (by omega) e2;have k3:=n2.cL;rw[k1] at n2;have hf:mG (.either a b) s.cL.length=λp q=>mG a s.cL.length p q\/mG b (s.cL.length+eU a) p q:=by funext p q;rw[mG]
      rw[eU,jL,rW,rI,lT,hf];simp only[Option.some.injEq,Prod.mk.injEq] at h;obtain⟨rfl,rfl⟩:=h;obtain⟨bs,hn⟩:=zfH hi ke.symm rfl n1 n2 (λx hx=>by have:=iC a _ x hx;omega) (λx y hx=>by have:=kK a _ x y hx;omega) (λx hx=>by have:=iC b _ x hx;omega) (λx y hx=>by have:=kK b _ x y hx;omega);exact⟨_,bs,hn⟩
 | .rep t m once,i,s,e,s',hi,hc,h=>by
  rw[eD] at h;generalize ke:((s.push ⟨[],0,false⟩).push ⟨[],0,false⟩).link i [s.kN.length]=s1 at h;have kx:s1.kN.length=s.kN.length+2:=by rw[<-ke,jP,cI,cI]
  have yu:s1.cL=s.cL:=by rw[<-ke];rfl
  split at h
  . cases h
  rename_i p s2 e1
  obtain⟨L1,b1,n1⟩:=oT t s.kN.length s1 p s2 (by omega) (by rw[yu];exact hc) e1;have k1:=n1.cL;rw[yu] at n1 k1;have hf:mG (.rep t m once) s.cL.length=λp q=>mG t s.cL.length p q\/(once=false/\p∈lT t s.cL.length/\q∈rI t s.cL.length):=by funext p q;rw[mG]
  rw[eU,jL,rW,rI,lT,hf];simp only[Option.some.injEq,Prod.mk.injEq] at h;obtain⟨rfl,rfl⟩:=h;obtain⟨bs,hn⟩:=net_rep (once:=once) (m:=m) hi ke.symm rfl rfl rfl n1 (λx hx=>by have:=iC t _ x hx;omega);exact⟨_,bs,hn⟩
theorem net_row:∀ (l:List aJ) (i:Nat) (s:bA) (e:Nat) (s':bA),i<s.kN.length->1<=s.cL.length->mY l i s=some (e,s')->
 ∃ Lnk bs,NetR (iE l) (oH l) (nulR l) (fstR l s.cL.length) (lstR l s.cL.length) (xV l s.cL.length) i e s s' Lnk bs
 | [],i,s,e,s',hi,hc,h=>by
  rw[mY] at h;cases h;have hf:xV [] s.cL.length=λ_ _=>False:=by funext p q;rw[xV]
  rw[iE,oH,nulR,fstR,lstR,hf];exact⟨_,_,net_nil i s (λk hk=>mF _ _ hk)⟩
 | t::l,i,s,e,s',hi,hc,h=>by
  rw[mY] at h;split at h
  . cases h
  rename_i p s2 e1
  obtain⟨L1,b1,n1⟩:=oT t i s p s2 hi hc e1;have k1:=n1.cL;have k2:=n1.len;have k4:=n1.fin;obtain⟨L2,b2,n2⟩:=net_row l p s2 e s' (by rcases k4 with h|h<;>omega) (by omega) h;have k3:=n2.cL;rw[k1] at n2;have hf:xV (t::l) s.cL.length=λp q=>mG t s.cL.length p q\/xV l (s.cL.length+eU t) p q\/(p∈lT t s.cL.length/\q∈fstR l (s.cL.length+eU t)):=by funext p q;rw[xV]
  rw[iE,oH,nulR,fstR,lstR,hf];exact net_comp hi n1 n2 (λx hx=>by have:=iC t _ x hx;omega) (λx y hx=>by have:=kK t _ x y hx;omega) (λx hx=>by have:=zce l _ x hx;omega) (λx y hx=>by have:=zb5 l _ x y hx;omega)
end
