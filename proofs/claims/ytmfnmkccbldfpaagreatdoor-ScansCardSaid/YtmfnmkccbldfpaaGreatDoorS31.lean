/- Part of a proof. No condition. -/
import Derived.Test.YtmfnmkccbldfpaaGreatDoorS18
set_option linter.unusedVariables false
set_option linter.unusedSimpArgs false
namespace Go.Proofs.YtmfnmkccbldfpaaGreatDoor
variable {G:List cK} {k:Nat}
def RchN (G:List cK):Nat->Nat->Nat->Prop
 | 0,k,x=>k=x
 | n+1,k,x=>∃ j∈bD G k,RchN G n j x
def Rch (G:List cK) (k x:Nat):Prop:=∃ n,RchN G n k x
theorem Rch.refl (G:List cK) (k:Nat):Rch G k k:=⟨0,rfl⟩
theorem Rch.step {j x:Nat} (hj:j∈bD G k) (h:Rch G j x):Rch G k x:=by
 obtain⟨n,h⟩:=h;exact⟨n+1,j,hj,h⟩
theorem dfs_spec (G:List cK):∀ (f:Nat),
 (∀ k seen l,dfs G f k seen=some l->(∀ x∈seen,x∈l)/\k∈l/\(∀ x∈l,x∈seen\/Rch G k x)/\∀ x∈l,x∉seen->∀ y∈bD G x,y∈l)/\
 (∀ r seen l,pI G f r seen=some l->(∀ x∈seen,x∈l)/\(∀ k∈r,k∈l)/\(∀ x∈l,x∈seen\/∃ k∈r,Rch G k x)/\∀ x∈l,x∉seen->∀ y∈bD G x,y∈l):=by
 intro f
 induction f with
 | zero=>grind [dfs,pI]
 | succ f ih=>
  refine⟨λk seen l h=> ?_,λr seen l h=> ?_⟩
  . grind [dfs,Rch.refl,Rch.step]
  cases r with
  | nil=>
   grind [pI]
  | cons k r=>
   rw[pI] at h
   grind
theorem zaH {f:Nat} {l:ο} (h:dfs G f k []=some l) (x:Nat):x∈l↔Rch G k x:=by
 obtain⟨_,h2,h3,h4⟩:=(dfs_spec G f).1 k [] l h;constructor
 . grind
 rintro⟨n,hn⟩
 have:∀ (n j:Nat),j∈l->RchN G n j x->x∈l:=by
  intro n
  induction n with
  | zero=>grind [RchN]
  | succ n ih=>
   rintro j hj ⟨i,hi,hr⟩
   grind
 grind
structure NetOk (G:List cK) (m:Nat):Prop where
 link:∀ k,∀ j∈bD G k,j<I G
 deg:∀ k,I (bD G k)<=m
theorem dfs_ends {m:Nat} (hG:NetOk G m):∀ (f:Nat),
 (∀ k seen,k<I G->seen.Nodup->(∀ x∈seen,x<I G)->(I G-I seen)*(m+2)+1<=f->∃ l,dfs G f k seen=some l/\l.Nodup/\(∀ x∈l,x<I G)/\I seen<=I l)/\
 (∀ (r:ο) seen,(∀ k∈r,k<I G)->seen.Nodup->(∀ x∈seen,x<I G)->I r+(I G-I seen)*(m+2)+1<=f->∃ l,pI G f r seen=some l/\l.Nodup/\(∀ x∈l,x<I G)/\I seen<=I l):=by
 intro f
 induction f with
 | zero=>simp
 | succ f ih=>
  refine⟨λk seen hk hn hs hf=> ?_,λr seen hk hn hs hf=> ?_⟩
  . rw[dfs]
    by_cases hc:seen.contains k=true
    . grind
    rw[if_neg hc]
    have Au:k∉seen:=by simpa using hc
    have XG:(seen++[k]).Nodup:=by
     rw[List.nodup_append];refine⟨hn,by simp,λa ha b hb e=> ?_⟩;rw[List.mem_singleton] at hb;subst hb;exact Au (e▸ha)
    have x8:∀ x∈seen++[k],x<I G:=λx hx=>by
     grind
    have Ho:=XG.length_le_of_subset (l₂:=List.range (I G)) (λx hx=>List.mem_range.2 (x8 x hx));rw[List.length_range,List.length_append,List.length_singleton] at Ho;have:=hG.deg k;have OM:(I G-I seen)*(m+2)=(I G-I (seen++[k]))*(m+2)+(m+2):=by
     rw[List.length_append,List.length_singleton,show I G-I seen=(I G-(I seen+1))+1 by omega,Nat.add_mul];omega
    obtain⟨l,h1,h2,h3,h4⟩:=ih.2 (bD G k) (seen++[k]) (hG.link k) XG x8 (by omega);exact⟨l,h1,h2,h3,by grind⟩
  cases r with
  | nil=>grind [pI]
  | cons k r=>
   rw[pI];simp only[List.length_cons] at hf;obtain⟨s2,h1,h2,h3,h4⟩:=ih.1 k seen (hk k (by simp)) hn hs (by omega);rw[h1];have OM:(I G-I s2)*(m+2)<=(I G-I seen)*(m+2):=Nat.mul_le_mul_right _ (by omega);obtain⟨l,a1,a2,a3,a4⟩:=ih.2 r s2 (λj hj=>hk j (by simp[hj])) h2 h3 (by omega)
   grind
theorem zhp {m f:Nat} (hG:NetOk G m) (hk:k<I G) (hf:I G*(m+2)+1<=f):∃ l,dfs G f k []=some l:=by
 obtain⟨l,h,_⟩:=(dfs_ends hG f).1 k [] hk (by simp) (λx hx=>by cases hx) (by omega)
 grind
end Go.Proofs.YtmfnmkccbldfpaaGreatDoor
namespace Go.Proofs.YtmfnmkccbldfpaaGreatDoor
theorem zzDX {p:Prop} (h:p:=by
 exact h1.bb1 G Z ZP (V1 G Z ZP hG) x b y hb (by rw[Cd];exact hf) hz):p:=h
theorem zzDB {p:Prop} (h:p:=by
 exact h1.bb2 G Z ZP (V1 G Z ZP hG) x b hb zg _ (oM.cons (gp G Z ZP hG) hh)):p:=h
theorem zzCf {p:Prop} (h:p:=by
 rcases zLg k s1.kN.length with h'|h'
 . rw[(h1.oldp k h').2,UW,vM _ _ hk]
 exact h1.nfin k h'):p:=h
theorem zzB3 {p:Prop} (h:p:=by
 rcases zLg x ki with hx|hx
 . rw[zGl (by rw[h1.bl];exact hx)] at hb
   grind
 rw[zGr (by rw[h1.bl];exact hx),h1.bl] at hb
 grind):p:=h
theorem zzBy {p:Prop} (h:p:=by show _<(((s.push ⟨[],0,false⟩).push ⟨[],s.cL.length,false⟩).link i [s.kN.length+1]).kN.length;omega):p:=h
theorem zzA3 {p:Prop} (h:p:=by
 rcases Nat.lt_trichotomy j s.kN.length with h|h|h
 . rw[zGl h,zN zo]
 . subst h;simp
 rw[zN zo,zGr zo,zGn (l:=s.kN) zo,zGn zx]):p:=h
variable {G:List cK} {Z:Nat->Prop}
mutual
def gJ:aL->Nat
 | .cL _=>1
 | .row l=>jO l
 | .either a b=>gJ a+gJ b
 | .rep t _ _=>gJ t
def jO:List aL->Nat
 | []=>0
 | t::l=>gJ t+jO l
end
mutual
def nulT:aL->Bool
 | .cL _=>false
 | .row l=>nulR l
 | .either a b=>nulT a||nulT b
 | .rep t m _=>nulT t||decide (m=0)
def nulR:List aL->Bool
 | []=>true
 | t::l=>nulT t&&nulR l
end
mutual
def xN:aL->Nat->ο
 | .cL _,n=>[n]
 | .row l,n=>fstR l n
 | .either a b,n=>xN a n++xN b (n+gJ a)
 | .rep t _ _,n=>xN t n
def fstR:List aL->Nat->ο
 | [],_=>[]
 | t::l,n=>xN t n++(if nulT t=true then fstR l (n+gJ t) else[])
end
mutual
def oL:aL->Nat->ο
 | .cL _,n=>[n]
 | .row l,n=>lstR l n
 | .either a b,n=>oL a n++oL b (n+gJ a)
 | .rep t _ _,n=>oL t n
def lstR:List aL->Nat->ο
 | [],_=>[]
 | t::l,n=>(if nulR l=true then oL t n else[])++lstR l (n+gJ t)
end
mutual
def oZ:aL->Nat->Nat->Nat->Prop
 | .cL _,_,_,_=>False
 | .row l,n,p,q=>folR l n p q
 | .either a b,n,p,q=>oZ a n p q\/oZ b (n+gJ a) p q
 | .rep t _ once,n,p,q=>oZ t n p q\/(once=false/\p∈oL t n/\q∈xN t n)
def folR:List aL->Nat->Nat->Nat->Prop
 | [],_,_,_=>False
 | t::l,n,p,q=>oZ t n p q\/folR l (n+gJ t) p q\/(p∈oL t n/\q∈fstR l (n+gJ t))
end
mutual
def nK:aL->Nat
 | .cL _=>2
 | .row l=>sD l
 | .either a b=>nK a+nK b+4
 | .rep t _ _=>nK t+5
def sD:List aL->Nat
 | []=>0
 | t::l=>nK t+sD l
end
mutual
def kU:aL->List θ
 | .cL c=>[c]
 | .row l=>uX l
 | .either a b=>kU a++kU b
 | .rep t _ _=>kU t
def uX:List aL->List θ
 | []=>[]
 | t::l=>kU t++uX l
end
mutual
theorem jG:∀ (t:aL) (n p:Nat),p∈oL t n->n<=p/\p<n+gJ t
 | .cL c,n,p,h=>by simp[oL] at h;simp[gJ];omega
 | .row l,n,p,h=>by rw[oL] at h;rw[gJ];exact zeu l n p h
 | .either a b,n,p,h=>by
  rw[oL,zMa] at h;rw[gJ]
  rcases h with h|h
  . have:=jG a n p h;omega
  . have:=jG b _ p h;omega
 | .rep t m o,n,p,h=>by rw[oL] at h;rw[gJ];exact jG t n p h
theorem zeu:∀ (l:List aL) (n p:Nat),p∈lstR l n->n<=p/\p<n+jO l
 | [],n,p,h=>by simp[lstR] at h
 | t::l,n,p,h=>by
  rw[lstR,zMa] at h;rw[jO]
  rcases h with h|h
  . split at h
    . have:=jG t n p h;omega
    cases h
  have:=zeu l _ p h;omega
end
mutual
theorem mX:∀ (t:aL) (n p q:Nat),oZ t n p q->n<=p/\p<n+gJ t
 | .cL c,n,p,q,h=>by rw[oZ] at h;exact h.elim
 | .row l,n,p,q,h=>by rw[oZ] at h;rw[gJ];exact zed l n p q h
 | .either a b,n,p,q,h=>by
  rw[oZ] at h;rw[gJ]
  rcases h with h|h
  . have:=mX a n p q h;omega
  . have:=mX b _ p q h;omega
 | .rep t m o,n,p,q,h=>by
  rw[oZ] at h;rw[gJ]
  rcases h with h|h
  . exact mX t n p q h
  exact jG t n p h.2.1
theorem zed:∀ (l:List aL) (n p q:Nat),folR l n p q->n<=p/\p<n+jO l
 | [],n,p,q,h=>by rw[folR] at h;exact h.elim
 | t::l,n,p,q,h=>by
  rw[folR] at h;rw[jO]
  rcases h with h|h|h
  . have:=mX t n p q h;omega
  . have:=zed l _ p q h;omega
  have:=jG t n p h.1;omega
end
theorem uN (s:bC) (k:cK) (j:Nat):bD (s.push k).kN j=if j=I s.kN then k.to else bD s.kN j:=by
 show bD (s.kN++[k]) j=_;unfold bD
 exact zzA3
theorem zcI (s:bC) (k:cK) (j:Nat):aX (s.push k).kN j=if j=I s.kN then k.place else aX s.kN j:=by
 show aX (s.kN++[k]) j=_;unfold aX
 exact zzA3
theorem zbS (s:bC) (k:cK) (j:Nat):eM (s.push k).kN j=if j=I s.kN then k.fin else eM s.kN j:=by
 show eM (s.kN++[k]) j=_;unfold eM
 exact zzA3
theorem zbA (s:bC) (i:Nat) (l:ο) (j:Nat) (hi:i<I s.kN):bD (s.link i l).kN j=if j=i then bD s.kN j++l else bD s.kN j:=by
 show bD (s.kN.modify i (qO l)) j=_;split
 . rename_i h;subst h;exact xA hi
 rename_i h;exact zeT (Ne.symm h)
theorem zbq (s:bC) (i:Nat) (l:ο) (j:Nat):aX (s.link i l).kN j=aX s.kN j:=uI (f:=qO l) (λ_=>rfl) i j
theorem vK (s:bC) (i:Nat) (l:ο) (j:Nat):eM (s.link i l).kN j=eM s.kN j:=zfm (f:=qO l) (λ_=>rfl) i j
theorem cZ (s:bC) (k:cK):I ((s.push k).kN)=I s.kN+1:=by show I (s.kN++[k])=_;simp
theorem mY (s:bC) (i:Nat) (l:ο):I ((s.link i l).kN)=I s.kN:=by show I (s.kN.modify i (qO l))=_;simp
theorem jU (G:List cK) (k:Nat) (h:I G<=k):bD G k=[]:=by unfold bD;rw[zGn h];rfl
theorem yE (G:List cK) (k:Nat) (h:I G<=k):aX G k=0:=by unfold aX;rw[zGn h];rfl
theorem vM (G:List cK) (k:Nat) (h:I G<=k):eM G k=false:=by unfold eM;rw[zGn h];rfl
def oM (G:List cK) (Z:Nat->Prop):Nat->Nat->Prop
 | 0,k=>Z k
 | m+1,k=>Z k\/∃ j∈bD G k,oM G Z m j
theorem oM.up :∀ {m k:Nat},oM G Z m k->oM G Z (m+1) k
 | 0,k,h=>.inl h
 | m+1,k,h=>by
  rcases h with h|⟨j,hj,h⟩
  . exact .inl h
  exact .inr ⟨j,hj,h.up⟩
theorem oM.mono {m m' k:Nat} (h:oM G Z m k) (hm:m<=m'):oM G Z m' k:=by
 induction hm with
 | refl=>exact h
 | step _ ih=>exact ih.up
theorem oM.cons {m k j:Nat} (hj:j∈bD G k) (h:oM G Z m j):oM G Z (m+1) k:=.inr ⟨j,hj,h⟩
structure dS (G:List cK) (Z ZP:Nat->Prop) (s s':bC) (e:Nat):Prop where
 lk:∀ k,I s.kN<=k->k<I s'.kN->k≠e->bD G k=bD s'.kN k
 z:∀ k,I s.kN<=k->k<I s'.kN->k≠e->(Z k↔0<aX s'.kN k/\ZP (aX s'.kN k))
structure NetR (nP c:Nat) (nu:Bool) (fs ls:ο) (fo:Nat->Nat->Prop) (i e:Nat) (s s':bC) (Lnk bs:ο):Prop where
 cL:I s'.cL=I s.cL+nP
 beh:s'.bE=s.bE++bs
 bl:I bs=nP
 len:I s.kN<=I s'.kN
 len2:I s'.kN<=I s.kN+c
 fin:(e=i/\s'=s/\nu=true/\fs=[]/\Lnk=[])\/(I s.kN<=e/\e<I s'.kN)
 old:∀ k,k<I s.kN->k≠i->bD s'.kN k=bD s.kN k
 aQ:bD s'.kN i=bD s.kN i++Lnk
 oldp:∀ k,k<I s.kN->aX s'.kN k=aX s.kN k/\eM s'.kN k=eM s.kN k
 e0:I s.kN<=e->bD s'.kN e=[]/\aX s'.kN e=0
 nfin:∀ k,I s.kN<=k->eM s'.kN k=false
 lnk:∀ j∈Lnk,j<I s'.kN
 link:∀ k,I s.kN<=k->∀ j∈bD s'.kN k,j<I s'.kN
 deg:∀ k,I (bD s'.kN k)<=I (bD s.kN k)+c
 bsr:∀ b∈bs,b<I s'.kN
 fwd:∀ G Z ZP,dS G Z ZP s s' e->∀ m,(∃ j∈Lnk,oM G Z m j)->(∃ p∈fs,ZP p)\/(nu=true/\e≠i/\oM G Z m e)
 bwd1:∀ G Z ZP,dS G Z ZP s s' e->∀ p∈fs,ZP p->∃ m,∃ j∈Lnk,oM G Z m j
 bwd2:∀ G Z ZP,dS G Z ZP s s' e->nu=true->e≠i->∀ m,oM G Z m e->∃ m',∃ j∈Lnk,oM G Z m' j
 bf:∀ G Z ZP,dS G Z ZP s s' e->∀ x b,bs[x]?=some b->∀ m,oM G Z m b->(∃ q,fo (I s.cL+x) q/\ZP q)\/((I s.cL+x)∈ls/\oM G Z m e)
 bb1:∀ G Z ZP,dS G Z ZP s s' e->∀ x b q,bs[x]?=some b->fo (I s.cL+x) q->ZP q->∃ m,oM G Z m b
 bb2:∀ G Z ZP,dS G Z ZP s s' e->∀ x b,bs[x]?=some b->(I s.cL+x)∈ls->∀ m,oM G Z m e->∃ m',oM G Z m' b
theorem net_cls (c:θ) {i:Nat} {s:bC} (hi:i<I s.kN) (hc:1<=I s.cL):
 NetR 1 2 false [I s.cL] [I s.cL] (λ_ _=>False) i (I s.kN) s {(((s.push ⟨[],0,false⟩).push ⟨[],I s.cL,false⟩).link i [I s.kN+1]) with cL:=s.cL++[c],bE:=s.bE++[I s.kN]} [I s.kN+1] [I s.kN]:=by
 have VN:i<I (((s.push ⟨[],0,false⟩).push ⟨[],I s.cL,false⟩).kN):=by rw[cZ,cZ];omega
 have jj:∀ k,bD (((s.push ⟨[],0,false⟩).push ⟨[],I s.cL,false⟩).link i [I s.kN+1]).kN k=if k=i then bD s.kN k++[I s.kN+1] else if k=I s.kN\/k=I s.kN+1 then[] else bD s.kN k:=λk=>by
  rw[zbA _ _ _ _ VN,uN,uN,cZ];by_cases h1:k=i
  . subst h1
    rw[zP rfl,zP rfl,zN zo,zN zo]
  rw[zN h1,zN h1]
  by_cases h2:k=I s.kN+1
  . rw[zP h2,zP (.inr h2)]
  rw[zN h2]
  by_cases h3:k=I s.kN
  . rw[zP h3,zP (.inl h3)]
  rw[zN h3,zN zo]
 have XT:∀ k,aX (((s.push ⟨[],0,false⟩).push ⟨[],I s.cL,false⟩).link i [I s.kN+1]).kN k=if k=I s.kN+1 then I s.cL else if k=I s.kN then 0 else aX s.kN k:=λk=>by
  rw[zbq,zcI,zcI,cZ]
 have Dk:∀ k,eM (((s.push ⟨[],0,false⟩).push ⟨[],I s.cL,false⟩).link i [I s.kN+1]).kN k=if k=I s.kN+1 then false else if k=I s.kN then false else eM s.kN k:=λk=>by
  rw[vK,zbS,zbS,cZ]
 have V8:I ((((s.push ⟨[],0,false⟩).push ⟨[],I s.cL,false⟩).link i [I s.kN+1]).kN)=I s.kN+2:=by rw[mY,cZ,cZ]
 have SN:∀ G Z ZP,dS G Z ZP s {(((s.push ⟨[],0,false⟩).push ⟨[],s.cL.length,false⟩).link i [s.kN.length+1]) with cL:=s.cL++[c],bE:=s.bE++[s.kN.length]} s.kN.length->bD G (s.kN.length+1)=[]/\(Z (s.kN.length+1)↔ZP s.cL.length):=λG Z ZP hG=>by
  have h1:=hG.lk (I s.kN+1) zo zzBy zo;have h2:=hG.z (I s.kN+1) zo zzBy zo;rw[show bD ({(((s.push ⟨[],0,false⟩).push ⟨[],I s.cL,false⟩).link i [I s.kN+1]) with cL:=s.cL++[c],bE:=s.bE++[I s.kN]}:bC).kN (I s.kN+1)=[] from by
   show bD (((s.push ⟨[],0,false⟩).push ⟨[],I s.cL,false⟩).link i [I s.kN+1]).kN _=[];rw[jj,zN zo,zP (.inr rfl)]] at h1
  rw[show aX ({(((s.push ⟨[],0,false⟩).push ⟨[],I s.cL,false⟩).link i [I s.kN+1]) with cL:=s.cL++[c],bE:=s.bE++[I s.kN]}:bC).kN (I s.kN+1)=I s.cL from by
   show aX (((s.push ⟨[],0,false⟩).push ⟨[],I s.cL,false⟩).link i [I s.kN+1]).kN _=_;rw[XT,zP rfl]] at h2
  exact⟨h1,h2.trans ⟨λh=>h.2,λh=>⟨zo,h⟩⟩⟩
 generalize (((s.push ⟨[],0,false⟩).push ⟨[],I s.cL,false⟩).link i [I s.kN+1])=s1 at jj XT Dk V8 SN;obtain⟨kn,cl,be⟩:=s1;refine⟨zs,rfl,rfl,by show _<=I kn;have:I kn=_:=V8;omega,by show I kn<=_;have:I kn=_:=V8;omega,.inr ⟨bR,by show _<I kn;have:I kn=_:=V8;omega⟩,λk hk hn=> ?_,?_,λk hk=>⟨?_,?_⟩,λ_=>⟨?_,?_⟩,λk hk=> ?_,λj hj=> ?_,λk hk j hj=> ?_,λk=> ?_,λb hb=> ?_,?_,?_,?_,?_,?_,?_⟩
 . exact (jj k).trans (by rw[zN hn,zN zo])
 . exact (jj i).trans (by rw[zP rfl])
 . exact (XT k).trans (by rw[zN zo,zN zo])
 . exact (Dk k).trans (by rw[zN zo,zN zo])
 . exact (jj _).trans (by rw[zN zo,zP (.inl rfl)])
 . exact (XT _).trans (by rw[zN zo,zP rfl])
 . refine (Dk k).trans ?_
   split
   . rfl
   split
   . rfl
   exact vM _ _ hk
 . have:I kn=_:=V8
   rw[zMs] at hj;show _<I kn;omega
 . have h:=jj k
   have KZ:j∈bD kn k:=hj;rw[show bD kn k=_ from h,zN zo] at KZ;split at KZ
   . cases KZ
   rw[jU _ _ hk] at KZ;cases KZ
 . have h:=jj k
   rw[show (bD ({kN:=kn,cL:=s.cL++[c],bE:=s.bE++[I s.kN]}:bC).kN k)=_ from h];split
   . simp
   split<;>simp
 . have:I kn=_:=V8
   rw[zMs] at hb;show _<I kn;omega
 . rintro G Z ZP hG m ⟨j,hj,hh⟩
   rw[zMs] at hj;subst hj;obtain⟨h1,h2⟩:=SN G Z ZP hG;refine .inl ⟨_,zs,h2.1 ?_⟩;cases m with
   | zero=>exact hh
   | succ m=>
    rcases hh with hh|⟨j,hj,_⟩
    . exact hh
    rw[h1] at hj;cases hj
 . rintro G Z ZP hG p hp hz
   rw[zMs] at hp;subst hp;exact⟨0,_,zs,(SN G Z ZP hG).2.2 hz⟩
 . intro G Z ZP hG h
   cases h
 . intro G Z ZP hG x b hb m hh
   refine .inr ?_;cases x with
   | zero=>simp at hb;subst hb;exact⟨zs,hh⟩
   | succ x=>simp at hb
 . intro G Z ZP hG x b q hb h
   exact h.elim
 intro G Z ZP hG x b hb h m hh
 cases x with
 | zero=>simp at hb;subst hb;exact⟨m,hh⟩
 | succ x=>simp at hb
end Go.Proofs.YtmfnmkccbldfpaaGreatDoor
namespace Go.Proofs.YtmfnmkccbldfpaaGreatDoor
theorem net_nil (i:Nat) (s:bC) (hs:∀ k,I s.kN<=k->eM s.kN k=false):NetR 0 0 true [] [] (λ_ _=>False) i i s s [] []:=by
 refine⟨rfl,zs,rfl,bR,bR,.inl ⟨rfl,rfl,rfl,rfl,rfl⟩,λ_ _ _=>rfl,zs,λ_ _=>⟨rfl,rfl⟩,λh=>⟨jU _ _ h,yE _ _ h⟩,hs,λj hj=>(by cases hj),λk hk j hj=> ?_,λk=>zo,λb hb=>(by cases hb),?_,?_,?_,?_,?_,?_⟩
 all_goals grind [jU]
theorem or_nil {α:Type} {l:List α} (h:∀ x,x∉l):l=[]:=List.eq_nil_iff_forall_not_mem.2 h
theorem net_comp {ki c1 nP2 c2:Nat} {nu1 nu2:Bool} {fs1 YD fs2 ls2:ο} {fo1 fo2:Nat->Nat->Prop} {i p e:Nat} {s s2 s3:bC} {L1 b1 L2 b2:ο} (hi:i<I s.kN)
 (h1:NetR ki c1 nu1 fs1 YD fo1 i p s s2 L1 b1) (h2:NetR nP2 c2 nu2 fs2 ls2 fo2 p e s2 s3 L2 b2)
 (r1:∀ x,x∈YD->I s.cL<=x/\x<I s2.cL) (r2:∀ x y,fo1 x y->I s.cL<=x/\x<I s2.cL) (r3:∀ x,x∈ls2->I s2.cL<=x/\x<I s3.cL) (r4:∀ x y,fo2 x y->I s2.cL<=x/\x<I s3.cL):
 ∃ Lnk bs,NetR (ki+nP2) (c1+c2) (nu1&&nu2) (fs1++if nu1=true then fs2 else[]) ((if nu2=true then YD else[])++ls2) (λx y=>fo1 x y\/fo2 x y\/(x∈YD/\y∈fs2)) i e s s3 Lnk bs:=by
 have:=h1.cL;have:=h2.cL
 rcases h1.fin with⟨rfl,rfl,rfl,rfl,rfl⟩|⟨Cp,Qd⟩
 ·
  have QR:ki=0:=zo
  subst QR;have VN:YD=[]:=or_nil λx hx=>by grind
  subst VN;have Ya:∀ x y,¬ fo1 x y:=λx y h=>by grind
  refine⟨L2,b2,?_⟩;have e1:(true&&nu2)=nu2:=zs
  have e2:([]++if true=true then fs2 else[]:ο)=fs2:=zs
  have e3:((if nu2=true then[] else[])++ls2:ο)=ls2:=zs
  have e4:(λx y=>fo1 x y\/fo2 x y\/(x∈([]:ο)/\y∈fs2))=fo2:=by
   funext x y;simp[Ya x y]
  rw[e1,e2,e3,e4,Nat.zero_add];exact⟨h2.cL,h2.beh,h2.bl,h2.len,zT h2.len2 zo,h2.fin,h2.old,h2.aQ,h2.oldp,h2.e0,h2.nfin,h2.lnk,h2.link,λk=>zT (h2.deg k) zo,h2.bsr,h2.fwd,h2.bwd1,h2.bwd2,h2.bf,h2.bb1,h2.bb2⟩
 . have th:p≠i:=zo
   have:=h2.len;have IY:(e=p/\s3=s2/\nu2=true/\fs2=[]/\L2=[])\/(I s2.kN<=e/\e<I s3.kN):=h2.fin;have Z4:I s.kN<=e:=by rcases IY with h|h<;>omega
   have Z5:e<I s3.kN:=by rcases IY with h|h<;>omega
   have hei:e≠i:=zo
   have V1:∀ G Z ZP,dS G Z ZP s s3 e->dS G Z ZP s s2 p:=λG Z ZP hG=>by
    refine⟨λk hk QF K1=> ?_,λk hk QF K1=> ?_⟩
    . have t7:k≠e:=by rcases IY with h|h<;>omega
      rw[hG.lk k hk zo t7,h2.old k QF K1]
    have t7:k≠e:=by rcases IY with h|h<;>omega
    rw[hG.z k hk zo t7,(h2.oldp k QF).1]
   have tS:∀ G Z ZP,dS G Z ZP s s3 e->dS G Z ZP s2 s3 e:=λG Z ZP hG=>⟨λk hk QF t7=>hG.lk k zo QF t7,λk hk QF t7=>hG.z k zo QF t7⟩;have gp:∀ G Z ZP,dS G Z ZP s s3 e->e≠p->bD G p=L2/\¬ Z p:=λG Z ZP hG hn=>by
    have a:=hG.lk p Cp zo (Ne.symm hn);have b:=hG.z p Cp zo (Ne.symm hn);rw[h2.aQ,(h1.e0 Cp).1,List.nil_append] at a;rw[(h2.oldp p Qd).1,(h1.e0 Cp).2] at b
    grind
   have Ob:∀ G Z ZP,dS G Z ZP s s3 e->e≠p->∀ m,oM G Z m p->∃ m',m'<=m/\∃ j∈L2,oM G Z m' j:=λG Z ZP hG hn m hh=>by
    obtain⟨a,b⟩:=gp G Z ZP hG hn;cases m with
    | zero=>exact absurd hh b
    | succ m=>
     rcases hh with hh|⟨j,hj,hh⟩
     all_goals grind
   have phit:∀ G Z ZP,dS G Z ZP s s3 e->e≠p->∀ m,(∃ j∈L2,oM G Z m j)->oM G Z (m+1) p:=λG Z ZP hG hn m ⟨j,hj,hh⟩=>oM.cons zg hh;have:∀ {P:Prop},e=p->(nu2=true->fs2=[]->P)->P:=λhe hP=>by
    rcases IY with h|h
    . exact hP h.2.2.1 h.2.2.2.1
    omega
   have d8:∀ x b,(b1++b2)[x]?=some b->(x<ki/\b1[x]?=some b)\/(ki<=x/\b2[x-ki]?=some b):=λx b hb=>by
    exact zzB3
   refine⟨L1,b1++b2,zo,by rw[h2.beh,h1.beh,List.append_assoc],by rw[zLn,h1.bl,h2.bl],zT h1.len h2.len,by have:=h1.len2;have:=h2.len2;omega,.inr ⟨Z4,Z5⟩,λk hk hn=> ?_,?_,λk hk=> ?_,λ_=> ?_,λk hk=> ?_,λj hj=> ?_,λk hk j hj=> ?_,λk=> ?_,λb hb=> ?_,?_,?_,?_,?_,?_,?_⟩
   . rw[h2.old k zo zo,h1.old k hk hn]
   . rw[h2.old i zo zo,h1.aQ]
   . have a:=h2.oldp k zo
     have b:=h1.oldp k hk
     grind
   . rcases IY with h|h
     . obtain⟨rfl,rfl,_⟩:=h
       exact h1.e0 Cp
     exact h2.e0 h.1
   . rcases zLg k (I s2.kN) with h|h
     . rw[(h2.oldp k h).2];exact h1.nfin k hk
     exact h2.nfin k h
   . have:=h1.lnk j hj;omega
   . rcases zLg k (I s2.kN) with h|h
     . by_cases K1:k=p
       . subst K1
         rw[h2.aQ,zMa] at hj
         rcases hj with hj|hj
         . have:=h1.link k hk j hj;omega
         exact h2.lnk j hj
       rw[h2.old k h K1] at hj
       have:=h1.link k hk j hj;omega
     exact h2.link k h j hj
   . have:=h1.deg k;have:=h2.deg k;omega
   . rcases List.mem_append.1 hb with h|h
     . have:=h1.bsr b h;omega
     exact h2.bsr b h
   . intro G Z ZP hG m hh
     rcases h1.fwd G Z ZP (V1 G Z ZP hG) m hh with⟨x,hx,hz⟩|⟨hn,_,hh⟩
     . grind
     by_cases he:e=p
     . grind
     obtain⟨m',hm,hj⟩:=Ob G Z ZP hG he m hh
     rcases h2.fwd G Z ZP (tS G Z ZP hG) m' hj with⟨x,hx,hz⟩|⟨XG,_,hh⟩
     . grind
     exact .inr ⟨zg,hei,hh.mono hm⟩
   . intro G Z ZP hG x hx hz
     rw[zMa] at hx
     rcases hx with hx|hx
     . exact h1.bwd1 G Z ZP (V1 G Z ZP hG) x hx hz
     split at hx
     . rename_i hn
       by_cases he:e=p
       . grind
       obtain⟨m,hj⟩:=h2.bwd1 G Z ZP (tS G Z ZP hG) x hx hz
       exact h1.bwd2 G Z ZP (V1 G Z ZP hG) hn th _ (phit G Z ZP hG he m hj)
     grind
   . intro G Z ZP hG hn _ m hh
     rw[Bool.and_eq_true] at hn;by_cases he:e=p
     . exact h1.bwd2 G Z ZP (V1 G Z ZP hG) hn.1 th m (by rw[<-he];exact hh)
     obtain⟨m',hj⟩:=h2.bwd2 G Z ZP (tS G Z ZP hG) hn.2 he m hh
     exact h1.bwd2 G Z ZP (V1 G Z ZP hG) hn.1 th _ (phit G Z ZP hG he m' hj)
   . intro G Z ZP hG x b hb m hh
     rcases d8 x b hb with⟨hx,hb⟩|⟨hx,hb⟩
     . rcases h1.bf G Z ZP (V1 G Z ZP hG) x b hb m hh with⟨q,hq,hz⟩|⟨hl,hh⟩
       . grind
       by_cases he:e=p
       . grind
       obtain⟨m',hm,hj⟩:=Ob G Z ZP hG he m hh
       rcases h2.fwd G Z ZP (tS G Z ZP hG) m' hj with⟨q,hq,hz⟩|⟨XG,_,hh⟩
       . grind
       exact .inr ⟨zg,hh.mono hm⟩
     have ex:I s2.cL+(x-ki)=I s.cL+x:=zo
     rcases h2.bf G Z ZP (tS G Z ZP hG) _ b hb m hh with⟨q,hq,hz⟩|⟨hl,hh⟩
     all_goals grind
   . intro G Z ZP hG x b q hb hf hz
     rcases d8 x b hb with⟨hx,hb⟩|⟨hx,hb⟩
     . rcases hf with hf|hf|⟨hl,hq⟩
       . exact h1.bb1 G Z ZP (V1 G Z ZP hG) x b q hb hf hz
       . grind
       by_cases he:e=p
       . grind
       obtain⟨m,hj⟩:=h2.bwd1 G Z ZP (tS G Z ZP hG) q hq hz
       exact h1.bb2 G Z ZP (V1 G Z ZP hG) x b hb hl _ (phit G Z ZP hG he m hj)
     have ex:I s2.cL+(x-ki)=I s.cL+x:=zo
     rcases hf with hf|hf|⟨hl,hq⟩
     . grind
     . exact h2.bb1 G Z ZP (tS G Z ZP hG) _ b q hb (by rw[ex];exact hf) hz
     grind
   intro G Z ZP hG x b hb hl m hh
   rw[zMa] at hl
   rcases d8 x b hb with⟨hx,hb⟩|⟨hx,hb⟩
   . rcases hl with hl|hl
     . split at hl
       . rename_i XG
         by_cases he:e=p
         . exact h1.bb2 G Z ZP (V1 G Z ZP hG) x b hb hl m (by rw[<-he];exact hh)
         obtain⟨m',hj⟩:=h2.bwd2 G Z ZP (tS G Z ZP hG) XG he m hh
         exact h1.bb2 G Z ZP (V1 G Z ZP hG) x b hb hl _ (phit G Z ZP hG he m' hj)
       grind
     grind
   have ex:I s2.cL+(x-ki)=I s.cL+x:=zo
   rcases hl with hl|hl
   . grind
   exact h2.bb2 G Z ZP (tS G Z ZP hG) _ b hb zg m hh
end Go.Proofs.YtmfnmkccbldfpaaGreatDoor
namespace Go.Proofs.YtmfnmkccbldfpaaGreatDoor
theorem ziM {ki c1 nP2 c2:Nat} {nu1 nu2:Bool} {fs1 YD fs2 ls2:ο} {fo1 fo2:Nat->Nat->Prop} {i p q:Nat} {s s1 s2 s3 s4:bC} {L1 b1 L2 b2:ο} (hi:i<I s.kN)
 (PH:s1=(((s.push ⟨[],0,false⟩).push ⟨[],0,false⟩).push ⟨[],0,false⟩).link i [I s.kN,I s.kN+1])
 (h4s:s4=(s3.link p [I s.kN+2]).link q [I s.kN+2])
 (h1:NetR ki c1 nu1 fs1 YD fo1 (I s.kN) p s1 s2 L1 b1) (h2:NetR nP2 c2 nu2 fs2 ls2 fo2 (I s.kN+1) q s2 s3 L2 b2)
 (r1:∀ x,x∈YD->I s.cL<=x/\x<I s2.cL) (r2:∀ x y,fo1 x y->I s.cL<=x/\x<I s2.cL) (r3:∀ x,x∈ls2->I s2.cL<=x/\x<I s3.cL) (r4:∀ x y,fo2 x y->I s2.cL<=x/\x<I s3.cL):
 ∃ bs,NetR (ki+nP2) (c1+c2+4) (nu1||nu2) (fs1++fs2) (YD++ls2) (λx y=>fo1 x y\/fo2 x y) i (I s.kN+2) s s4 [I s.kN,I s.kN+1] bs:=by
 have ky:i<I ((((s.push ⟨[],0,false⟩).push ⟨[],0,false⟩).push ⟨[],0,false⟩).kN):=by rw[cZ,cZ,cZ];omega
 have Xo:∀ k,bD s1.kN k=if k=i then bD s.kN k++[I s.kN,I s.kN+1] else bD s.kN k:=λk=>by
  rw[PH,zbA _ _ _ _ ky,uN,uN,uN,cZ,cZ]
  grind [jU]
 have K8:∀ k,aX s1.kN k=aX s.kN k:=λk=>by
  grind [zbq,zcI,cZ,yE]
 have UW:∀ k,eM s1.kN k=eM s.kN k:=λk=>by
  grind [vK,zbS,cZ,vM]
 have:I s1.kN=I s.kN+3:=by rw[PH,mY,cZ,cZ,cZ]
 have TP:s1.cL=s.cL/\s1.bE=s.bE:=by rw[PH];exact⟨rfl,rfl⟩
 clear PH ky;have:=h1.len;have:=h2.len;have hp:(p=I s.kN/\s2=s1/\nu1=true/\fs1=[]/\L1=[])\/(I s.kN+3<=p/\p<I s2.kN):=by
  rcases h1.fin with h|h
  . grind
  omega
 have hq:(q=I s.kN+1/\s3=s2/\nu2=true/\fs2=[]/\L2=[])\/(I s2.kN<=q/\q<I s3.kN):=h2.fin;have:p<I s3.kN:=by rcases hp with h|h<;>omega
 have:q<I s3.kN:=by rcases hq with h|h<;>omega
 have:p≠q:=by rcases hp with h|h<;>rcases hq with h'|h'<;>omega
 have:I s4.kN=I s3.kN:=by rw[h4s,mY,mY]
 have Vi:∀ k,bD s4.kN k=if k=p\/k=q then bD s3.kN k++[I s.kN+2] else bD s3.kN k:=λk=>by
  grind [zbA,mY]
 have Nk:∀ k,aX s4.kN k=aX s3.kN k:=λk=>by rw[h4s,zbq,zbq]
 have og:∀ k,eM s4.kN k=eM s3.kN k:=λk=>by rw[h4s,vK,vK]
 have Xk:s4.cL=s3.cL/\s4.bE=s3.bE:=by rw[h4s];exact⟨rfl,rfl⟩
 clear h4s;have Yg:=h1.cL;have:=h2.cL;rw[TP.1] at Yg;have o3:∀ k,k<I s.kN->bD s3.kN k=bD s1.kN k:=λk hk=>by rw[h2.old k zo zo,h1.old k zo zo]
 have t0:bD s3.kN (I s.kN)=L1:=by
  rw[h2.old _ zo zo,h1.aQ,Xo,zN zo,jU _ _ bR,List.nil_append]
 have t1:bD s3.kN (I s.kN+1)=L2:=by
  rw[h2.aQ,h1.old _ zo zo,Xo,zN zo,jU _ _ zo,List.nil_append]
 have t2:bD s3.kN (I s.kN+2)=[]:=by
  rw[h2.old _ zo zo,h1.old _ zo zo,Xo,zN zo,jU _ _ zo]
 have pz:∀ k,k<I s.kN+3->I s.kN<=k->aX s4.kN k=0:=λk hk QF=>by
  rw[Nk,(h2.oldp k zo).1,(h1.oldp k zo).1,K8,yE _ _ QF]
 have tp:I s.kN+3<=p->p<I s2.kN->bD s4.kN p=[I s.kN+2]/\aX s4.kN p=0:=λha hb=>by
  have h:=h1.e0 zo;rw[Vi,zP (.inl rfl),Nk,h2.old p hb zo,(h2.oldp p hb).1,h.1,h.2];simp
 have tq:I s2.kN<=q->bD s4.kN q=[I s.kN+2]/\aX s4.kN q=0:=λha=>by
  have h:=h2.e0 ha
  grind
 have V1:∀ G Z ZP,dS G Z ZP s s4 (I s.kN+2)->dS G Z ZP s1 s2 p:=λG Z ZP hG=>by
  refine⟨λk hk QF K1=> ?_,λk hk QF K1=> ?_⟩
  . have I3:k≠q:=by rcases hq with h|h<;>omega
    rw[hG.lk k zo zo zo,Vi,zN zo,h2.old k QF zo]
  rw[hG.z k zo zo zo,Nk,(h2.oldp k QF).1]
 have tS:∀ G Z ZP,dS G Z ZP s s4 (I s.kN+2)->dS G Z ZP s2 s3 q:=λG Z ZP hG=>by
  refine⟨λk hk QF I3=> ?_,λk hk QF K1=> ?_⟩
  . have K1:k≠p:=by rcases hp with h|h<;>omega
    rw[hG.lk k zo zo zo,Vi,zN zo]
  rw[hG.z k zo zo zo,Nk]
 have nz:∀ G Z ZP,dS G Z ZP s s4 (I s.kN+2)->∀ k,I s.kN<=k->k<I s4.kN->k≠I s.kN+2->aX s4.kN k=0->¬ Z k:=λG Z ZP hG k hk QF hn h0 hz=>by
  have:=(hG.z k hk QF hn).1 hz;omega
 have f0:∀ G Z ZP,dS G Z ZP s s4 (I s.kN+2)->∀ m,oM G Z m (I s.kN)->(∃ x∈fs1,ZP x)\/(nu1=true/\oM G Z m (I s.kN+2)):=λG Z ZP hG m hh=>by
  have hz:=nz G Z ZP hG (I s.kN) bR zo zo (pz _ zo bR);have hg:=hG.lk (I s.kN) bR zo zo;cases m with
  | zero=>exact absurd hh hz
  | succ m=>
   rcases hh with hh|⟨j,hj,hh⟩
   . grind
   rw[hg,Vi] at hj
   rcases hp with⟨e1,e2,e3,e4,e5⟩|⟨ha,hb⟩
   . rw[zP (.inl e1.symm),t0,e5,List.nil_append,zMs] at hj
     subst hj;exact .inr ⟨e3,hh.up⟩
   have I3:I s.kN≠q:=by rcases hq with h|h<;>omega
   rw[zN zo,t0] at hj
   rcases h1.fwd G Z ZP (V1 G Z ZP hG) m ⟨j,hj,hh⟩ with h|⟨hn,_,hh⟩
   . exact .inl h
   have Fb:=nz G Z ZP hG p zo zo zo (tp ha hb).2
   have GJ:=hG.lk p zo zo zo;cases m with
   | zero=>exact absurd hh Fb
   | succ m=>
    rcases hh with hh|⟨j,hj,hh⟩
    . grind
    rw[GJ,(tp ha hb).1,zMs] at hj
    subst hj;exact .inr ⟨hn,hh.mono zo⟩
 have f1:∀ G Z ZP,dS G Z ZP s s4 (I s.kN+2)->∀ m,oM G Z m (I s.kN+1)->(∃ x∈fs2,ZP x)\/(nu2=true/\oM G Z m (I s.kN+2)):=λG Z ZP hG m hh=>by
  have hz:=nz G Z ZP hG (I s.kN+1) zo zo zo (pz _ zo zo);have hg:=hG.lk (I s.kN+1) zo zo zo;cases m with
  | zero=>exact absurd hh hz
  | succ m=>
   rcases hh with hh|⟨j,hj,hh⟩
   . grind
   rw[hg,Vi] at hj
   rcases hq with⟨e1,e2,e3,e4,e5⟩|⟨ha,hb⟩
   . rw[zP (.inr e1.symm),t1,e5,List.nil_append,zMs] at hj
     subst hj;exact .inr ⟨e3,hh.up⟩
   have K1:I s.kN+1≠p:=by rcases hp with h|h<;>omega
   rw[zN zo,t1] at hj
   rcases h2.fwd G Z ZP (tS G Z ZP hG) m ⟨j,hj,hh⟩ with h|⟨hn,_,hh⟩
   . exact .inl h
   have Fc:=nz G Z ZP hG q zo zo zo (tq ha).2
   have IZ:=hG.lk q zo zo zo;cases m with
   | zero=>exact absurd hh Fc
   | succ m=>
    rcases hh with hh|⟨j,hj,hh⟩
    . grind
    rw[IZ,(tq ha).1,zMs] at hj
    subst hj;exact .inr ⟨hn,hh.mono zo⟩
 have gk0:∀ G Z ZP,dS G Z ZP s s4 (I s.kN+2)->∀ j∈L1,j∈bD G (I s.kN):=λG Z ZP hG j hj=>by
  rw[hG.lk (I s.kN) bR zo zo,Vi,t0]
  grind
 have gk1:∀ G Z ZP,dS G Z ZP s s4 (I s.kN+2)->∀ j∈L2,j∈bD G (I s.kN+1):=λG Z ZP hG j hj=>by
  rw[hG.lk (I s.kN+1) zo zo zo,Vi,t1]
  grind
 have gp:∀ G Z ZP,dS G Z ZP s s4 (I s.kN+2)->I s.kN+2∈bD G p:=λG Z ZP hG=>by
  have Qq:I s.kN<=p:=by rcases hp with h|h<;>omega
  have Pm:p≠I s.kN+2:=by rcases hp with h|h<;>omega
  rw[hG.lk p Qq zo Pm,Vi,zP (.inl rfl)];simp
 have gq:∀ G Z ZP,dS G Z ZP s s4 (I s.kN+2)->I s.kN+2∈bD G q:=λG Z ZP hG=>by
  have VR:I s.kN<=q:=by rcases hq with h|h<;>omega
  have AB:q≠I s.kN+2:=by rcases hq with h|h<;>omega
  rw[hG.lk q VR zo AB,Vi,zP (.inr rfl)];simp
 have g0:∀ G Z ZP,dS G Z ZP s s4 (I s.kN+2)->nu1=true->∀ m,oM G Z m (I s.kN+2)->∃ m',oM G Z m' (I s.kN):=λG Z ZP hG hn m hh=>by
  have Xx:=oM.cons (gp G Z ZP hG) hh
  rcases hp with⟨e1,_⟩|⟨ha,hb⟩
  . exact⟨m+1,by rw[<-e1];exact Xx⟩
  obtain⟨m',j,hj,hh⟩:=h1.bwd2 G Z ZP (V1 G Z ZP hG) hn zo _ Xx
  exact⟨m'+1,oM.cons (gk0 G Z ZP hG j hj) hh⟩
 have g1:∀ G Z ZP,dS G Z ZP s s4 (I s.kN+2)->nu2=true->∀ m,oM G Z m (I s.kN+2)->∃ m',oM G Z m' (I s.kN+1):=λG Z ZP hG hn m hh=>by
  have hqq:=oM.cons (gq G Z ZP hG) hh
  rcases hq with⟨e1,_⟩|⟨ha,hb⟩
  . exact⟨m+1,by rw[<-e1];exact hqq⟩
  obtain⟨m',j,hj,hh⟩:=h2.bwd2 G Z ZP (tS G Z ZP hG) hn zo _ hqq
  exact⟨m'+1,oM.cons (gk1 G Z ZP hG j hj) hh⟩
 have d8:∀ x b,(b1++b2)[x]?=some b->(x<ki/\b1[x]?=some b)\/(ki<=x/\b2[x-ki]?=some b):=λx b hb=>by
  exact zzB3
 have CV:0<ki->I s.kN+3<=p/\p<I s2.kN:=λh=>by
  rcases hp with⟨_,e,_⟩|h'
  . grind
  omega
 have BC:0<nP2->I s2.kN<=q:=λh=>by
  grind
 have Pm:∀ G Z ZP,dS G Z ZP s s4 (I s.kN+2)->I s.kN+3<=p->p<I s2.kN->∀ m,oM G Z m p->oM G Z m (I s.kN+2):=λG Z ZP hG ha hb m hh=>by
  have Fb:=nz G Z ZP hG p zo zo zo (tp ha hb).2;have GJ:=hG.lk p zo zo zo;cases m with
  | zero=>exact absurd hh Fb
  | succ m=>
   rcases hh with hh|⟨j,hj,hh⟩
   . exact absurd hh Fb
   rw[GJ,(tp ha hb).1,zMs] at hj
   subst hj;exact hh.up
 have AB:∀ G Z ZP,dS G Z ZP s s4 (I s.kN+2)->I s2.kN<=q->∀ m,oM G Z m q->oM G Z m (I s.kN+2):=λG Z ZP hG ha m hh=>by
  have Fc:=nz G Z ZP hG q zo zo zo (tq ha).2;have IZ:=hG.lk q zo zo zo;cases m with
  | zero=>exact absurd hh Fc
  | succ m=>
   rcases hh with hh|⟨j,hj,hh⟩
   . exact absurd hh Fc
   rw[IZ,(tq ha).1,zMs] at hj
   subst hj;exact hh.up
 have Cd:I s1.cL=I s.cL:=by rw[TP.1]
 refine⟨b1++b2,zg,by rw[Xk.2,h2.beh,h1.beh,TP.2,List.append_assoc],by rw[zLn,h1.bl,h2.bl],zo,by have:=h1.len2;have:=h2.len2;omega,.inr ⟨zo,zo⟩,λk hk hn=> ?_,?_,λk hk=>⟨?_,?_⟩,λ_=>⟨?_,pz _ zo zo⟩,λk hk=> ?_,λj hj=> ?_,λk hk j hj=> ?_,λk=> ?_,λb hb=> ?_,?_,?_,?_,?_,?_,?_⟩
 . have a1:k≠p:=by rcases hp with h|h<;>omega
   have a2:k≠q:=by rcases hq with h|h<;>omega
   rw[Vi,zN zo,o3 k hk,Xo,zN hn]
 . have a1:i≠p:=by rcases hp with h|h<;>omega
   have a2:i≠q:=by rcases hq with h|h<;>omega
   rw[Vi,zN zo,o3 i hi,Xo,zP rfl]
 . rw[Nk,(h2.oldp k zo).1,(h1.oldp k zo).1,K8]
 . rw[og,(h2.oldp k zo).2,(h1.oldp k zo).2,UW]
 . have a1:I s.kN+2≠p:=by rcases hp with h|h<;>omega
   have a2:I s.kN+2≠q:=by rcases hq with h|h<;>omega
   rw[Vi,zN zo,t2]
 . rw[og]
   rcases zLg k (I s2.kN) with h|h
   . rw[(h2.oldp k h).2]
     exact zzCf
   exact h2.nfin k h
 . simp at hj;omega
 . have key:∀ j∈bD s3.kN k,j<I s3.kN:=λj hj=>by
    rcases zLg k (I s2.kN) with h|h
    . by_cases e1:k=I s.kN+1
      . subst e1;rw[t1] at hj;exact h2.lnk j hj
      rw[h2.old k h e1] at hj
      rcases zLg k (I s1.kN) with h'|h'
      . by_cases e0:k=I s.kN
        . subst e0
          rw[h1.aQ,Xo,zN zo,jU _ _ bR,List.nil_append] at hj;have:=h1.lnk j hj;omega
        rw[h1.old k h' e0,Xo,zN zo,jU _ _ hk] at hj
        cases hj
      have:=h1.link k h' j hj;omega
    exact h2.link k h j hj
   rw[Vi] at hj;split at hj
   . rw[zMa,zMs] at hj
     rcases hj with hj|hj
     . have:=key j hj;omega
     omega
   have:=key j hj;omega
 . have a1:=h1.deg k
   have a2:=h2.deg k;have:I (bD s1.kN k)<=I (bD s.kN k)+2:=by rw[Xo];split<;>simp
   have:I (bD s4.kN k)<=I (bD s3.kN k)+1:=by rw[Vi];split<;>simp
   omega
 . rcases List.mem_append.1 hb with h|h
   . have:=h1.bsr b h;omega
   have:=h2.bsr b h;omega
 . rintro G Z ZP hG m ⟨j,hj,hh⟩
   simp only[List.mem_cons,List.not_mem_nil,or_false] at hj
   rcases hj with rfl|rfl
   . rcases f0 G Z ZP hG m hh with⟨x,hx,hz⟩|⟨hn,hh⟩
     . exact .inl ⟨x,by simp[hx],hz⟩
     grind
   rcases f1 G Z ZP hG m hh with⟨x,hx,hz⟩|⟨hn,hh⟩
   . exact .inl ⟨x,by simp[hx],hz⟩
   grind
 . intro G Z ZP hG x hx hz
   rw[zMa] at hx
   rcases hx with hx|hx
   . obtain⟨m,j,hj,hh⟩:=h1.bwd1 G Z ZP (V1 G Z ZP hG) x hx hz
     exact⟨m+1,_,zs,oM.cons (gk0 G Z ZP hG j hj) hh⟩
   obtain⟨m,j,hj,hh⟩:=h2.bwd1 G Z ZP (tS G Z ZP hG) x hx hz
   exact⟨m+1,I s.kN+1,zs,oM.cons (gk1 G Z ZP hG j hj) hh⟩
 . intro G Z ZP hG hn _ m hh
   rw[Bool.or_eq_true] at hn
   rcases hn with hn|hn
   . obtain⟨m',h⟩:=g0 G Z ZP hG hn m hh
     exact⟨m',_,zs,h⟩
   obtain⟨m',h⟩:=g1 G Z ZP hG hn m hh
   exact⟨m',I s.kN+1,zs,h⟩
 . intro G Z ZP hG x b hb m hh
   rcases d8 x b hb with⟨hx,hb⟩|⟨hx,hb⟩
   . rcases h1.bf G Z ZP (V1 G Z ZP hG) x b hb m hh with⟨y,hy,hz⟩|⟨hl,hh⟩
     . exact .inl ⟨y,.inl (by rw[Cd] at hy;exact hy),hz⟩
     obtain⟨ha,Qy⟩:=CV zo
     exact .inr ⟨by rw[Cd] at hl;simp[hl],Pm G Z ZP hG ha Qy m hh⟩
   have ex:I s2.cL+(x-ki)=I s.cL+x:=zo
   have:x-ki<nP2:=by rw[<-h2.bl];exact (List.getElem?_eq_some_iff.1 hb).1
   rcases h2.bf G Z ZP (tS G Z ZP hG) _ b hb m hh with⟨y,hy,hz⟩|⟨hl,hh⟩
   . exact .inl ⟨y,.inr (by rw[<-ex];exact hy),hz⟩
   exact .inr ⟨by rw[<-ex];simp[hl],AB G Z ZP hG (BC zo) m hh⟩
 . intro G Z ZP hG x b y hb hf hz
   rcases d8 x b hb with⟨hx,hb⟩|⟨hx,hb⟩
   . rcases hf with hf|hf
     . exact zzDX
     have:=r4 _ _ hf;omega
   have ex:I s2.cL+(x-ki)=I s.cL+x:=zo
   rcases hf with hf|hf
   . have:=r2 _ _ hf;omega
   exact h2.bb1 G Z ZP (tS G Z ZP hG) _ b y hb (by rw[ex];exact hf) hz
 intro G Z ZP hG x b hb hl m hh
 rw[zMa] at hl
 rcases d8 x b hb with⟨hx,hb⟩|⟨hx,hb⟩
 . rcases hl with hl|hl
   . exact zzDB
   have:=r3 _ hl;omega
 have ex:I s2.cL+(x-ki)=I s.cL+x:=zo
 rcases hl with hl|hl
 . have:=r1 _ hl;omega
 exact h2.bb2 G Z ZP (tS G Z ZP hG) _ b hb zg _ (oM.cons (gq G Z ZP hG) hh)
end Go.Proofs.YtmfnmkccbldfpaaGreatDoor
namespace Go.Proofs.YtmfnmkccbldfpaaGreatDoor
theorem net_rep {ki c1:Nat} {nu1 once:Bool} {m:Int} {fs1 YD:ο} {fo1:Nat->Nat->Prop} {i p:Nat} {s s1 s2 s3 s4 s5:bC} {L1 b1:ο} (hi:i<I s.kN)
 (PH:s1=((s.push ⟨[],0,false⟩).push ⟨[],0,false⟩).link i [I s.kN])
 (h3s:s3=s2.link p [I s.kN+1]) (h4s:s4=if once=true then s3 else s3.link p [I s.kN]) (h5s:s5=if m=0 then s4.link (I s.kN) [I s.kN+1] else s4)
 (h1:NetR ki c1 nu1 fs1 YD fo1 (I s.kN) p s1 s2 L1 b1)
 (r1:∀ x,x∈YD->I s.cL<=x/\x<I s2.cL):
 ∃ bs,NetR ki (c1+5) (nu1||decide (m=0)) fs1 YD (λx y=>fo1 x y\/(once=false/\x∈YD/\y∈fs1)) i (I s.kN+1) s s5 [I s.kN] bs:=by
 have ky:i<I (((s.push ⟨[],0,false⟩).push ⟨[],0,false⟩).kN):=by rw[cZ,cZ];omega
 have Xo:∀ k,bD s1.kN k=if k=i then bD s.kN k++[I s.kN] else bD s.kN k:=λk=>by
  rw[PH,zbA _ _ _ _ ky,uN,uN,cZ]
  grind [jU]
 have K8:∀ k,aX s1.kN k=aX s.kN k:=λk=>by
  grind [zbq,zcI,cZ,yE]
 have UW:∀ k,eM s1.kN k=eM s.kN k:=λk=>by
  grind [vK,zbS,cZ,vM]
 have Ov:I s1.kN=I s.kN+2:=by rw[PH,mY,cZ,cZ]
 have TP:s1.cL=s.cL/\s1.bE=s.bE:=by rw[PH];exact⟨rfl,rfl⟩
 clear PH ky;have Q9:=h1.len;have hp:(p=I s.kN/\s2=s1/\nu1=true/\fs1=[]/\L1=[])\/(I s.kN+2<=p/\p<I s2.kN):=by
  rcases h1.fin with h|h
  . grind
  omega
 have yf:p<I s2.kN:=by rcases hp with h|h<;>omega
 have hlen5:I s5.kN=I s2.kN:=by
  rw[h5s,h4s,h3s];split<;>split<;>simp only[mY]
 have DQ:∀ k,bD s5.kN k=bD s2.kN k++((if k=p then (I s.kN+1)::(if once=true then[] else[I s.kN]) else[])++(if k=I s.kN/\m=0 then[I s.kN+1] else[])):=λk=>by
  have h3:bD s3.kN k=bD s2.kN k++(if k=p then[I s.kN+1] else[]):=by
   rw[h3s,zbA _ _ _ _ yf];split<;>simp
  grind [mY,zbA]
 have im:∀ k,aX s5.kN k=aX s2.kN k:=λk=>by
  grind [zbq]
 have oh:∀ k,eM s5.kN k=eM s2.kN k:=λk=>by
  grind [vK]
 have ZY:s5.cL=s2.cL/\s5.bE=s2.bE:=by
  rw[h5s,h4s,h3s];split<;>split<;>exact⟨rfl,rfl⟩
 clear h5s h4s h3s s3 s4;have Yg:=h1.cL;rw[TP.1] at Yg;have tC:∀ k j,j∈bD s5.kN k↔j∈bD s2.kN k\/(k=p/\(j=I s.kN+1\/(once=false/\j=I s.kN)))\/(k=I s.kN/\m=0/\j=I s.kN+1):=λk j=>by
  grind
 have t0:bD s2.kN (I s.kN)=L1:=by
  rw[h1.aQ,Xo,zN zo,jU _ _ bR,List.nil_append]
 have t1:bD s2.kN (I s.kN+1)=[]:=by
  rw[h1.old _ zo zo,Xo,zN zo,jU _ _ zo]
 have pz:∀ k,k<I s.kN+2->I s.kN<=k->aX s5.kN k=0:=λk hk QF=>by
  rw[im,(h1.oldp k zo).1,K8,yE _ _ QF]
 have tp:I s.kN+2<=p->bD s2.kN p=[]/\aX s5.kN p=0:=λha=>by
  have h:=h1.e0 zo
  grind
 have V1:∀ G Z ZP,dS G Z ZP s s5 (I s.kN+1)->dS G Z ZP s1 s2 p:=λG Z ZP hG=>by
  refine⟨λk hk QF K1=> ?_,λk hk QF K1=> ?_⟩
  . rw[hG.lk k zo zo zo,DQ,zN K1,zN zo]
    simp
  rw[hG.z k zo zo zo,im]
 have nz:∀ G Z ZP,dS G Z ZP s s5 (I s.kN+1)->∀ k,I s.kN<=k->k<I s5.kN->k≠I s.kN+1->aX s5.kN k=0->¬ Z k:=λG Z ZP hG k hk QF hn h0 hz=>by
  have:=(hG.z k hk QF hn).1 hz;omega
 have f0:∀ G Z ZP,dS G Z ZP s s5 (I s.kN+1)->∀ n,oM G Z n (I s.kN)->(∃ x∈fs1,ZP x)\/((nu1||decide (m=0))=true/\oM G Z n (I s.kN+1)):=λG Z ZP hG n=>by
  induction n using Nat.strongRecOn with
  | _ n ih=>
   intro hh;have hz:=nz G Z ZP hG (I s.kN) bR zo zo (pz _ zo bR);have hg:=hG.lk (I s.kN) bR zo zo;cases n with
   | zero=>exact absurd hh hz
   | succ n=>
    rcases hh with hh|⟨j,hj,hh⟩
    . grind
    rw[hg,tC,t0] at hj
    rcases hj with hj|⟨e,hj⟩|⟨_,hm,rfl⟩
    . rcases h1.fwd G Z ZP (V1 G Z ZP hG) n ⟨j,hj,hh⟩ with h|⟨hn,CV,hh⟩
      . grind
      have Xx:I s.kN+2<=p:=by rcases hp with h|h<;>omega
      have Fb:=nz G Z ZP hG p zo zo zo (tp Xx).2;have GJ:=hG.lk p zo zo zo;cases n with
      | zero=>exact absurd hh Fb
      | succ n=>
       rcases hh with hh|⟨j,hj,hh⟩
       . grind
       rw[GJ,tC,(tp Xx).1] at hj
       rcases hj with hj|⟨_,rfl|⟨_,rfl⟩⟩|⟨hj,_⟩
       . cases hj
       . exact .inr ⟨by simp[hn],hh.mono zo⟩
       . rcases ih n zo hh with h|⟨h1,h2⟩
         . grind
         exact .inr ⟨h1,h2.mono zo⟩
       omega
    . have hn:nu1=true:=by
       rcases hp with h|h
       . grind
       omega
      rcases hj with rfl|⟨_,rfl⟩
      . exact .inr ⟨by simp[hn],hh.up⟩
      rcases ih n zo hh with h|⟨h1,h2⟩
      . grind
      exact .inr ⟨h1,h2.up⟩
    exact .inr ⟨by simp[hm],hh.up⟩
 have gk0:∀ G Z ZP,dS G Z ZP s s5 (I s.kN+1)->∀ j∈L1,j∈bD G (I s.kN):=λG Z ZP hG j hj=>by
  rw[hG.lk (I s.kN) bR zo zo,tC,t0]
  grind
 have gp:∀ G Z ZP,dS G Z ZP s s5 (I s.kN+1)->I s.kN+1∈bD G p:=λG Z ZP hG=>by
  have Qq:I s.kN<=p:=by rcases hp with h|h<;>omega
  have Pm:p≠I s.kN+1:=by rcases hp with h|h<;>omega
  rw[hG.lk p Qq zo Pm,tC];omega
 have gpn:∀ G Z ZP,dS G Z ZP s s5 (I s.kN+1)->once=false->I s.kN∈bD G p:=λG Z ZP hG ho=>by
  have Qq:I s.kN<=p:=by rcases hp with h|h<;>omega
  have Pm:p≠I s.kN+1:=by rcases hp with h|h<;>omega
  rw[hG.lk p Qq zo Pm,tC]
  grind
 have CV:0<ki->I s.kN+2<=p:=λh=>by
  grind
 have x6:∀ x b,b1[x]?=some b->I s.kN+2<=p:=λx b hb=>by
  have:=(List.getElem?_eq_some_iff.1 hb).1;rw[h1.bl] at this;omega
 have Cd:I s1.cL=I s.cL:=by rw[TP.1]
 refine⟨b1,zg,by rw[ZY.2,h1.beh,TP.2],h1.bl,zo,by have:=h1.len2;omega,.inr ⟨zo,zo⟩,λk hk hn=> ?_,?_,λk hk=>⟨?_,?_⟩,λ_=>⟨?_,pz _ zo zo⟩,λk hk=> ?_,λj hj=> ?_,λk hk j hj=> ?_,λk=> ?_,λb hb=> ?_,?_,?_,?_,?_,?_,?_⟩
 . have a1:k≠p:=by rcases hp with h|h<;>omega
   rw[DQ,zN a1,zN zo,h1.old k zo zo,Xo,zN hn];simp
 . have a1:i≠p:=by rcases hp with h|h<;>omega
   rw[DQ,zN a1,zN zo,h1.old i zo zo,Xo,zP rfl];simp
 . rw[im,(h1.oldp k zo).1,K8]
 . rw[oh,(h1.oldp k zo).2,UW]
 . grind
 . rw[oh]
   exact zzCf
 . grind
 . rw[tC] at hj
   rcases hj with hj|⟨_,hj⟩|⟨_,_,hj⟩
   . rcases zLg k (I s1.kN) with h'|h'
     . by_cases e0:k=I s.kN
       . subst e0
         rw[t0] at hj;have:=h1.lnk j hj;omega
       grind [jU]
     . have:=h1.link k h' j hj;omega
   all_goals omega
 . have a1:=h1.deg k
   have a3:I (bD s1.kN k)<=I (bD s.kN k)+1:=by rw[Xo];split<;>simp
   have a4:I (bD s5.kN k)<=I (bD s2.kN k)+3:=by
    rw[DQ,zLn,zLn];have q1:I (if k=p then (I s.kN+1)::(if once=true then[] else[I s.kN]) else[])<=2:=by
     split
     . grind
     simp
    have q2:I (if k=I s.kN/\m=0 then[I s.kN+1] else[])<=1:=by split<;>simp
    omega
   omega
 . have:=h1.bsr b hb;omega
 . grind
 . intro G Z ZP hG x hx hz
   obtain⟨n,j,hj,hh⟩:=h1.bwd1 G Z ZP (V1 G Z ZP hG) x hx hz;exact⟨n+1,I s.kN,List.mem_singleton.2 rfl,oM.cons (gk0 G Z ZP hG j hj) hh⟩
 . intro G Z ZP hG hn _ n hh
   rw[Bool.or_eq_true,decide_eq_true_eq] at hn
   rcases hn with hn|hn
   . have Xx:=oM.cons (gp G Z ZP hG) hh
     rcases hp with⟨e1,_⟩|⟨ha,hb⟩
     . grind
     obtain⟨n',j,hj,hh⟩:=h1.bwd2 G Z ZP (V1 G Z ZP hG) hn zo _ Xx
     exact⟨n'+1,I s.kN,List.mem_singleton.2 rfl,oM.cons (gk0 G Z ZP hG j hj) hh⟩
   refine⟨n+1,I s.kN,List.mem_singleton.2 rfl,oM.cons (j:=I s.kN+1) ?_ hh⟩
   rw[hG.lk (I s.kN) bR zo zo,tC];omega
 . intro G Z ZP hG x b hb n hh
   have Xx:=x6 x b hb
   rcases h1.bf G Z ZP (V1 G Z ZP hG) x b hb n hh with⟨y,hy,hz⟩|⟨hl,hh⟩
   . grind
   rw[Cd] at hl
   have Fb:=nz G Z ZP hG p zo zo zo (tp Xx).2;have GJ:=hG.lk p zo zo zo;cases n with
   | zero=>exact absurd hh Fb
   | succ n=>
    rcases hh with hh|⟨j,hj,hh⟩
    . grind
    rw[GJ,tC,(tp Xx).1] at hj
    rcases hj with hj|⟨_,rfl|⟨ho,rfl⟩⟩|⟨hj,_⟩
    . cases hj
    . exact .inr ⟨hl,hh.up⟩
    . rcases f0 G Z ZP hG n hh with⟨y,hy,hz⟩|⟨_,hh⟩
      . grind
      exact .inr ⟨hl,hh.up⟩
    omega
 . intro G Z ZP hG x b y hb hf hz
   rcases hf with hf|⟨ho,hl,hy⟩
   . exact zzDX
   obtain⟨n,j,hj,hh⟩:=h1.bwd1 G Z ZP (V1 G Z ZP hG) y hy hz
   exact h1.bb2 G Z ZP (V1 G Z ZP hG) x b hb zg _ (oM.cons (gpn G Z ZP hG ho) (oM.cons (gk0 G Z ZP hG j hj) hh))
 intro G Z ZP hG x b hb hl n hh
 exact zzDB
mutual
theorem sH:∀ (t:aL) (i:Nat) (s:bC) (e:Nat) (s':bC),i<I s.kN->1<=I s.cL->fE t i s=some (e,s')->
 ∃ Lnk bs,NetR (gJ t) (nK t) (nulT t) (xN t (I s.cL)) (oL t (I s.cL)) (oZ t (I s.cL)) i e s s' Lnk bs
 | .cL c,i,s,e,s',hi,hc,h=>by
  rw[fE] at h;split at h
  . cases h
  . cases h
    have hf:oZ (.cL c) (I s.cL)=λ_ _=>False:=by funext p q;rw[oZ]
    grind [gJ,nK,nulT,xN,oL,net_cls]
 | .row l,i,s,e,s',hi,hc,h=>by
  rw[fE] at h;have hf:oZ (.row l) (I s.cL)=folR l (I s.cL):=by funext p q;rw[oZ]
  rw[gJ,nK,nulT,xN,oL,hf];exact net_row l i s e s' hi hc h
 | .either a b,i,s,e,s',hi,hc,h=>by
  rw[fE] at h;generalize PH:(((s.push ⟨[],0,false⟩).push ⟨[],0,false⟩).push ⟨[],0,false⟩).link i [I s.kN,I s.kN+1]=s1 at h;have VN:I s1.kN=I s.kN+3:=by rw[<-PH,mY,cZ,cZ,cZ]
  have Yg:s1.cL=s.cL:=by rw[<-PH];rfl
  split at h
  . cases h
  . rename_i p s2 e1
    split at h
    . cases h
    . rename_i q s3 e2
      obtain⟨L1,b1,n1⟩:=sH a (I s.kN) s1 p s2 zo zg e1;have k1:=n1.cL;have:=n1.len;rw[Yg] at n1 k1;obtain⟨L2,b2,n2⟩:=sH b (I s.kN+1) s2 q s3 zo zo e2;have:=n2.cL;rw[k1] at n2;have hf:oZ (.either a b) (I s.cL)=λp q=>oZ a (I s.cL) p q\/oZ b (I s.cL+gJ a) p q:=by funext p q;rw[oZ]
      rw[gJ,nK,nulT,xN,oL,hf];simp only[Option.some.injEq,Prod.mk.injEq] at h;obtain⟨rfl,rfl⟩:=h;obtain⟨bs,hn⟩:=ziM hi PH.symm rfl n1 n2 (λx hx=>by have:=jG a _ x hx;omega) (λx y hx=>by have:=mX a _ x y hx;omega) (λx hx=>by have:=jG b _ x hx;omega) (λx y hx=>by have:=mX b _ x y hx;omega)
      grind
 | .rep t m once,i,s,e,s',hi,hc,h=>by
  rw[fE] at h;generalize PH:((s.push ⟨[],0,false⟩).push ⟨[],0,false⟩).link i [I s.kN]=s1 at h;have VN:I s1.kN=I s.kN+2:=by rw[<-PH,mY,cZ,cZ]
  have Yg:s1.cL=s.cL:=by rw[<-PH];rfl
  split at h
  . cases h
  rename_i p s2 e1
  obtain⟨L1,b1,n1⟩:=sH t (I s.kN) s1 p s2 zo zg e1;have k1:=n1.cL;rw[Yg] at n1 k1;have hf:oZ (.rep t m once) (I s.cL)=λp q=>oZ t (I s.cL) p q\/(once=false/\p∈oL t (I s.cL)/\q∈xN t (I s.cL)):=by funext p q;rw[oZ]
  rw[gJ,nK,nulT,xN,oL,hf];simp only[Option.some.injEq,Prod.mk.injEq] at h;obtain⟨rfl,rfl⟩:=h;obtain⟨bs,hn⟩:=net_rep (once:=once) (m:=m) hi PH.symm rfl rfl rfl n1 (λx hx=>by have:=jG t _ x hx;omega)
  grind
theorem net_row:∀ (l:List aL) (i:Nat) (s:bC) (e:Nat) (s':bC),i<I s.kN->1<=I s.cL->qL l i s=some (e,s')->
 ∃ Lnk bs,NetR (jO l) (sD l) (nulR l) (fstR l (I s.cL)) (lstR l (I s.cL)) (folR l (I s.cL)) i e s s' Lnk bs
 | [],i,s,e,s',hi,hc,h=>by
  rw[qL] at h;cases h;have hf:folR [] (I s.cL)=λ_ _=>False:=by funext p q;rw[folR]
  rw[jO,sD,nulR,fstR,lstR,hf];exact⟨_,_,net_nil i s (λk hk=>vM _ _ hk)⟩
 | t::l,i,s,e,s',hi,hc,h=>by
  rw[qL] at h;split at h
  . cases h
  rename_i p s2 e1
  obtain⟨L1,b1,n1⟩:=sH t i s p s2 hi hc e1;have k1:=n1.cL;have:=n1.len;have:=n1.fin;obtain⟨L2,b2,n2⟩:=net_row l p s2 e s' zo zo h;have:=n2.cL;rw[k1] at n2;have hf:folR (t::l) (I s.cL)=λp q=>oZ t (I s.cL) p q\/folR l (I s.cL+gJ t) p q\/(p∈oL t (I s.cL)/\q∈fstR l (I s.cL+gJ t)):=by funext p q;rw[folR]
  rw[jO,sD,nulR,fstR,lstR,hf];exact net_comp hi n1 n2 (λx hx=>by have:=jG t _ x hx;omega) (λx y hx=>by have:=mX t _ x y hx;omega) (λx hx=>by have:=zeu l _ x hx;omega) (λx y hx=>by have:=zed l _ x y hx;omega)
end
