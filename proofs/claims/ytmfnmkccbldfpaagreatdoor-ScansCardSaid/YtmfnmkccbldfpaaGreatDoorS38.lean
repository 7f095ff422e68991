/- Part of a proof. No condition. -/
import Derived.Test.YtmfnmkccbldfpaaGreatDoorS35
import Derived.Test.YtmfnmkccbldfpaaGreatDoorS32
set_option linter.unusedVariables false
set_option linter.unusedSimpArgs false
set_option maxRecDepth 100000
set_option maxHeartbeats 40000000
namespace Go.Proofs.YtmfnmkccbldfpaaGreatDoor
open Go.RowKit Go.Lib Tryz
theorem zzDf {p:Prop} (h:p:=by rw[HO.o.lr];exact Hf):p:=h
theorem zzDb {p:Prop} (h:p:=by
 exact⟨⟨_,aJ h k _ (zLe zo)⟩,h.frozenAt _,(h.lt rb rfl).2⟩):p:=h
theorem zzCG {p:Prop} (h:p:=by
 unfold dP;rw[<-List.map_set,show n-k=(n-(k+1))+1 by omega];have:=zh5 row (n-(k+1)) x;rw[h.lk] at this;rw[this]):p:=h
theorem zzAo {p:Prop} (h:p:=by
 exact⟨j+1,by go_num,zo,by rw[hn],ut.o.1,by rw[hn];exact ut.o.2,by rw[hn];exact si.o,by rw[hn];omega⟩):p:=h
variable {L:iT} {rL:List θ} {s:aZ} {n:Nat} {c:Int}
def pW (l:ο) (i:Int) (a:List Int):List Int:=l.foldl (λa k=>a.set k i) a
def Mk.fin (M:Mk) (p:lF) (i:Nat):Mk:={M with fL:=M.fL.modify 0 (dH · p.fst),last:=pW p.lst i M.last}
def runR:List aL->Nat->Mk->Option Mk
 | [],_,M=>some M
 | t::r,i,M=>if (fP t M).2.on=true then none else runR r (i+1) ((fP t M).2.fin (fP t M).1 i)
def mk0:Mk:=⟨[[]],[-1],[[]],false⟩
theorem zfC:iJ mk0:=by
 refine⟨zd,rfl,rfl,⟨λr hr x hx=> ?_,λr hr=> ?_⟩⟩
 . have h:r=[]:=List.mem_singleton.1 hr
   rw[h] at hx;cases hx
 have h:r=[]:=List.mem_singleton.1 hr
 rw[h];exact List.nodup_nil
theorem zbx:∀ (l:ο) (i:Int) (a:List Int),I (pW l i a)=I a
 | [],i,a=>rfl
 | k::l,i,a=>by
  show I (pW l i (a.set k i))=_;rw[zbx,List.length_set]
theorem zdN (i:Int) (p:Nat):∀ (l:ο) (a:List Int),(∀ x∈l,x<I a)->χ (pW l i a) p (-1)=if p∈l then i else χ a p (-1)
 | [],a,_=>by simp[pW]
 | k::l,a,h=>by
  show χ (pW l i (a.set k i)) p (-1)=_;rw[zdN i p l _ (λx hx=>by rw[List.length_set];exact h x (by simp[hx]))];have hk:=h k zs;by_cases e:k=p
  . subst e
    rw[zP (List.mem_cons_self),zLf,List.getElem?_set_self hk];split<;>rfl
  have e1:χ (a.set k i) p (-1)=χ a p (-1):=by rw[zLf,List.getElem?_set_ne e,<-zLf]
  have e2:p∈k::l↔p∈l:=by rw[List.mem_cons];exact⟨λh=>h.resolve_left (λh=>e h.symm),.inr⟩
  rw[e1];split
  . rename_i h1;rw[zP (e2.2 h1)]
  rename_i h1;rw[zN (λh=>h1 (e2.1 h))]
theorem zhv (F:List ο) (b:ο) (hF:0<I F) (p q:Nat):q∈χ (F.modify 0 (dH · b)) p []↔q∈χ F p []\/(p=0/\q∈b):=by
 have:=zaR (b:=b) p q [0] F (λx hx=>by rw[zMs] at hx;omega);have e:eZ [0] b F=F.modify 0 (dH · b):=rfl;rw[e] at this;rw[this,zMs]
theorem Mk.fin_ok {M:Mk} {p:lF} (h:iJ M) (hp:eT p (I M.fL)) (i:Nat):iJ (M.fin p i)/\I ((M.fin p i).fL)=I M.fL:=by
 have e:(M.fin p i).fL=eZ [0] p.fst M.fL:=rfl;have el:I ((M.fin p i).fL)=I M.fL:=by rw[e,nO]
 refine⟨⟨by rw[el];exact h.le,by rw[el];exact h.c,?_,by rw[e];exact zaQ _ _ h.f hp.f⟩,el⟩;rw[el];show I (pW _ _ _)=_;rw[zbx];exact h.a
theorem vX:∀ (ts:List aL) (i:Nat) (M M2:Mk),iJ M->M.on=false->1<=I M.fL->runR ts i M=some M2->
 iJ M2/\M2.on=false/\M2.cL=M.cL++ts.flatMap kU/\I M2.fL=I M.fL+yU ts/\
 (∀ q,q∈χ M2.fL 0 []↔q∈χ M.fL 0 []\/fstA ts (I M.fL) q)/\
 (∀ p q,1<=p->(q∈χ M2.fL p []↔q∈χ M.fL p []\/folA ts (I M.fL) p q))/\
 (∀ p,χ M2.last p (-1)=if p<I M.fL then χ M.last p (-1) else rulA ts i (I M.fL) p)
 | [],i,M,M2,h,h0,h1,hr=>by
  rw[runR] at hr;cases hr;refine⟨h,h0,zs,by simp[yU],λq=>by simp[fstA],λp q _=>by simp[folA],λp=> ?_⟩;rw[rulA];split
  . rfl
  . rw[zLf,zGn (by rw[h.a];omega)];rfl
 | t::ts,i,M,M2,h,h0,h1,hr=>by
  rw[runR] at hr;split at hr
  . cases hr
  rename_i Qr
  have Qr:(fP t M).2.on=false:=by simpa using Qr
  have qo:I M.fL+gJ t<=65:=by
   rcases zLg 65 (I M.fL+gJ t) with h2|h2
   . rw[zaT t M h h2] at Qr;cases Qr
   exact h2
  obtain⟨a1,a2,a3⟩:=rA t M h;have s1:=qQ t M h h0 qo;obtain⟨b1,b2⟩:=Mk.fin_ok a1 a2 i;obtain⟨c1,c2,c3,c4,c5,c6,c7⟩:=vX ts (i+1) _ M2 b1 Qr (by rw[b2];omega) hr;rw[b2,s1.len] at c4 c5 c6 c7;have QZ:0<I ((fP t M).2.fL):=zo
  refine⟨c1,c2,?_,by rw[c4,yU];omega,λq=> ?_,λp q hp=> ?_,λp=> ?_⟩
  . rw[c3]
    show (fP t M).2.cL++_=_;rw[s1.cL,List.flatMap_cons,List.append_assoc]
  . rw[c5]
    have:q∈χ (((fP t M).2.fin (fP t M).1 i).fL) 0 []↔q∈χ ((fP t M).2.fL) 0 []\/(0=0/\q∈(fP t M).1.fst):=zhv _ _ QZ 0 q;rw[this,s1.fL,s1.fst,fstA];constructor
    . rintro ((h|h)|h)
      . rcases h with h|h
        . exact .inl h
        have:=mX t _ _ _ h;omega
      . exact .inr (.inl h.2)
      exact .inr (.inr h)
    rintro (h|h|h)
    . exact .inl (.inl (.inl h))
    . exact .inl (.inr ⟨rfl,h⟩)
    exact .inr h
  . rw[c6 p q hp]
    have:q∈χ (((fP t M).2.fin (fP t M).1 i).fL) p []↔q∈χ ((fP t M).2.fL) p []\/(p=0/\q∈(fP t M).1.fst):=zhv _ _ QZ p q;rw[this,s1.fL,folA];constructor
    . rintro ((h|h)|h)
      . rcases h with h|h
        . exact .inl h
        exact .inr (.inl h)
      . omega
      exact .inr (.inr h)
    rintro (h|h|h)
    . exact .inl (.inl (.inl h))
    . exact .inl (.inl (.inr h))
    exact .inr h
  rw[c7]
  have hlx:∀ x∈(fP t M).1.lst,x<I ((fP t M).2.last):=λx hx=>by rw[a1.a];exact a2.l x hx
  have:χ (((fP t M).2.fin (fP t M).1 i).last) p (-1)=if p∈(fP t M).1.lst then (i:Int) else χ ((fP t M).2.last) p (-1):=zdN i p _ _ hlx
  rw[this,rulA];have hm:p∈(fP t M).1.lst↔p∈oL t (I M.fL):=s1.lst p;by_cases hp:p<I M.fL
  . rw[zP zo,zP hp,zN (λh=>by have:=jG t _ _ (hm.1 h);omega),s1.last,zLf,zGl (by rw[h.a];exact hp),<-zLf]
  rw[zN hp]
  by_cases yf:p<I M.fL+gJ t
  . rw[zP yf]
    by_cases hl:p∈oL t (I M.fL)
    . rw[zP (hm.2 hl),zP hl]
    rw[zN (λh=>hl (hm.1 h)),zN hl,zgY _ _ _ _ yf,s1.last,zLf,zGr (by rw[h.a];omega),List.getElem?_replicate]
    split<;>rfl
  rw[zN yf,zN (λh=>by have:=jG t _ _ h;omega)]
structure RefL (rL:List θ) (fL:List ο) (last:List Int) (L:iT):Prop where
 ln:I rL=I L.cL
 fn:I fL=I L.cL
 an:I last=I L.cL
 le:I L.cL<=65
 cL:∀ k,nY (χ rL k []) (χ L.cL k [])
 c0:χ L.cL 0 []=[]
 fol':∀ p q,p<I L.cL->0<q->q<128->(q∈χ fL p []↔(χ L.fO p (0,0)).has q=true)
 last':∀ p,p<I L.cL->χ last p (-1)=χ L.rU p (-1)
 fok:∀ x∈L.fO,x.Ok
theorem ref_laid {ts:List aL} {M:Mk} (h:runR ts 0 mk0=some M) (hL:zgb L ts) (hr:I rL=I M.cL) (hc:∀ k,nY (χ rL k []) (χ M.cL k [])):RefL rL M.fL M.last L:=by
 obtain⟨a1,a2,a3,a4,a5,a6,a7⟩:=vX ts 0 mk0 M zfC rfl zd h;have e1:M.cL=L.cL:=by rw[a3,hL.cL];rfl
 have e2:I mk0.fL=1:=rfl;rw[e2] at a4 a5 a6 a7;have hl:=a1.le;have Ho:=hL.len;have Vn:I M.cL=I M.fL:=a1.c;refine⟨by rw[hr,e1],by rw[<-Vn,e1],by rw[a1.a,<-Vn,e1],by rw[<-e1];omega,λk=>by rw[<-e1];exact hc k,by rw[hL.cL];rfl,λp q hp hq Vs=> ?_,λp hp=> ?_,hL.fok⟩
 . by_cases Cp:p=0
   . subst Cp
     rw[a5,hL.fol0 q hq Vs];simp[mk0]
   rw[a6 p q zo,hL.fL p zo hp q hq Vs]
   have:χ mk0.fL p []=[]:=by
    rw[zLf];cases p with
    | zero=>omega
    | succ p=>rfl
   rw[this];simp
 rw[a7]
 by_cases Cp:p=0
 . subst Cp
   rw[zP zd,hL.rul0];rfl
 rw[zN zo,hL.rul p zo hp]
def gU (s:aZ) (n:Nat):ο:=(List.range n).filter (λk=>s.has k)
def LowS (s:aZ) (n:Nat):Prop:=s.Ok/\∀ p,p<128->s.has p=true->p<n
theorem rT {x:Nat}:x∈gU s n↔x<n/\s.has x=true:=by
 unfold gU;rw[List.mem_filter,List.mem_range]
theorem zdC (s:aZ) (n:Nat):gU s (n+1)=gU s n++(if s.has n=true then[n] else[]):=by
 unfold gU;rw[List.range_succ,List.filter_append];congr 1;cases h:s.has n<;>simp[h]
theorem zfI {t:aZ} (hs:LowS s n) (ht:LowS t n) (h:gU s n=gU t n):s=t:=by
 refine set_ext hs.1 ht.1 λp hp=> ?_;have h1:p∈gU s n↔p∈gU t n:=by rw[h]
 rw[rT,rT] at h1;have h2:=hs.2 p hp;have h3:=ht.2 p hp;cases e1:s.has p<;>cases e2:t.has p
 . rfl
 . rw[e1,e2] at h1
   exact absurd (h1.2 ⟨h3 e2,rfl⟩).2 zd
 . rw[e1,e2] at h1
   exact absurd (h1.1 ⟨h2 e1,rfl⟩).2 zd
 rfl
theorem low_zero (n:Nat):LowS (0,0) n:=⟨yD,λp _ h=>by rw[qK] at h;cases h⟩
theorem zbn (n:Nat):gU (0,0) n=[]:=by
 unfold gU;rw[List.filter_eq_nil_iff];intro a _;rw[qK];decide
theorem ofSet_nil (hs:LowS s n):gU s n=[]↔s=(0,0):=by
 constructor
 . intro h
   exact zfI hs (low_zero n) (by rw[h,zbn])
 rintro rfl
 exact zbn n
theorem zaW (s:aZ) (n:Nat):I (gU s n)<=n:=by
 have:=List.length_filter_le (λk=>s.has k) (List.range n);rw[List.length_range] at this;exact this
theorem low_start (hn:0<n):LowS (1,0) n:=⟨⟨zd,zd⟩,λp hp h=>by rw[zfn p hp] at h;simp at h;omega⟩
theorem zgL (hn:0<n) (XG:n<=128):gU (1,0) n=[0]:=by
 induction n with
 | zero=>omega
 | succ n ih=>
  rw[zdC];by_cases h0:n=0
  . subst h0;rfl
  rw[ih zo zo,zfn n zo]
  simp[h0]
def inCl (l:θ) (c:Int):Bool:=l.any λr=>decide (r.1<=c)&&decide (c<=r.2)
def sB (rL:List θ) (fL:List ο) (set:ο) (c:Int) (k:Nat):Bool:=decide (1<=k)&&inCl (χ rL k []) c&&set.any λi=>decide (k∈χ fL i [])
theorem zbU {l:θ} :inCl l c=true↔inR l c:=by
 unfold inCl inR;simp
def yK (L:iT) (s:aZ) (c:Int):aZ:=(bU L s (I L.cL)).1.and (bP L.cL c)
theorem toS_low (qo:I L.cL<=65) (Hq:∀ x∈L.fO,x.Ok) (s:aZ) (c:Int):LowS (yK L s c) (I L.cL):=by
 refine⟨ok_and (zbN Hq s _),λp hp h=> ?_⟩;unfold yK at h;rw[has_and,Bool.and_eq_true,zct _ _ _ hp] at h
 rcases zLg p (I L.cL) with h1|h1
 . exact h1
 rw[zGn h1] at h
 exact absurd h.2 zs
theorem zg7 {k:Nat} (hk:k<128):(yK L s c).has k=true↔(∃ i,i<I L.cL/\s.has i=true/\(χ L.fO i (0,0)).has k=true)/\fZ (χ L.cL k []) c=true:=by
 unfold yK;rw[has_and,Bool.and_eq_true,za7,zct _ _ _ hk,zLf];refine and_congr_right λ_=> ?_;cases L.cL[k]? with
 | none=>simp[fZ]
 | some x=>rfl
theorem after_eq {fL:List ο} {last:List Int} (h:RefL rL fL last L) (s:aZ) (hc:cW c=true) (m:Nat) (hm:m<=I L.cL):
 (List.range m).filter (sB rL fL (gU s (I L.cL)) c)=gU (yK L s c) m:=by
 unfold gU;apply List.filter_congr;intro k hk;rw[List.mem_range] at hk;have:=h.le;apply Bool.eq_iff_iff.2;rw[zg7 zo];unfold sB;rw[Bool.and_eq_true,Bool.and_eq_true,decide_eq_true_eq,zbU,(h.cL k).inr c hc,List.any_eq_true];have e1:fZ (χ L.cL k []) c=true↔inR (χ L.cL k []) c:=by
  unfold fZ;rw[hc,Bool.true_and];exact zbU
 rw[e1];constructor
 . rintro⟨⟨h1,h2⟩,i,hi,hf⟩
   rw[<-gU,rT] at hi;exact⟨⟨i,hi.1,hi.2,(h.fol' i k hi.1 zo zo).1 (by simpa using hf)⟩,h2⟩
 rintro⟨⟨i,hi,hs,hf⟩,h2⟩
 have YQ:1<=k:=by
  rcases Nat.eq_zero_or_pos k with rfl|h0
  . rw[h.c0] at h2
    obtain⟨r,hr,_⟩:=h2;cases hr
  exact h0
 exact⟨⟨YQ,h2⟩,i,by rw[<-gU];exact rT.2 ⟨hi,hs⟩,by simpa using (h.fol' i k hi zo zo).2 hf⟩
theorem zcZ (qo:I L.cL<=65) (Hq:∀ x∈L.fO,x.Ok) (s:aZ) (hc:¬ cW c=true):yK L s c=(0,0):=by
 refine set_ext (toS_low qo Hq s c).1 yD λp hp=> ?_;rw[qK];cases e:(yK L s c).has p with
 | false=>rfl
 | true=>
  rw[zg7 hp] at e;have:=e.2;unfold fZ at this;rw[Bool.and_eq_true] at this;exact absurd this.1 hc
def kK (last:List Int) (Qe:Int) (i:Nat):Int:=if 0<=χ last i (-1)/\(Qe<0\/χ last i (-1)<Qe) then χ last i (-1) else Qe
theorem rule_eq {fL:List ο} {last:List Int} (h:RefL rL fL last L) (s:aZ):∀ m,m<=I L.cL->(gU s m).foldl (kK last) (-1)=(bU L s m).2
 | 0,_=>rfl
 | m+1,hm=>by
  have ih:=rule_eq h s m zo;rw[zdC,List.foldl_append,ih,bU];(try dsimp only);split
  . show kK last _ m=_
    unfold kK;rw[h.last' m zo]
  rfl
end Go.Proofs.YtmfnmkccbldfpaaGreatDoor
namespace Go.Proofs.YtmfnmkccbldfpaaGreatDoor
theorem gD_same {l:List Int} {i:Nat} {x:Int} (h:i<I l):χ (l.set i x) i 0=x:=by
 grind
theorem gD_other {l:List Int} {i j:Nat} {x:Int} (h:i≠j):χ (l.set i x) j 0=χ l j 0:=by
 grind
def widO (T:dX) (k:Nat):Int:=iH (χ T.cU k 0)
def toO (T:dX) (i k:Nat):Int:=χ (χ T.gO i []) k (-1)
def ruO (T:dX) (u:Int):Int:=χ T.rU u.toNat 0
def dO (T:dX) (far:List Int) (i k:Nat):Int:=if 0<=ruO T (toO T i k) then widO T k-1 else widO T k+χ far (toO T i k).toNat 0
end Go.Proofs.YtmfnmkccbldfpaaGreatDoor
namespace Go.Proofs.YtmfnmkccbldfpaaGreatDoor
def sC (T:dX) (far:List Int):Nat->Nat->Int->Int
 | 0,_,Qe=>Qe
 | k+1,i,Qe=>sC T far k (i+1) (if 0<i/\χ T.rU i 0<0 then Qe else max Qe (χ far i 0))
def vA (T:dX) (far:List Int) (i k:Nat):List Int:=
 if toO T i k<0 then far else if χ far i 0<dO T far i k then far.set i (dO T far i k) else far
def zeH (T:dX) (i:Nat):Nat->List Int->List Int
 | 0,far=>far
 | k+1,far=>vA T (zeH T i k far) i k
def kO (T:dX) (m:Nat):Nat->List Int->List Int
 | 0,far=>far
 | i+1,far=>zeH T i m (kO T m i far)
def refB (T:dX) (n m:Nat):Nat->List Int->Int
 | 0,_=> -1
 | r+1,far=>if kO T m n far=far then sC T far n 0 0+1 else refB T n m r (kO T m n far)
def LeF (a b:List Int):Prop:=I a=I b/\∀ j,χ a j 0<=χ b j 0
theorem LeF.refl (a:List Int):LeF a a:=⟨rfl,λ_=>Int.le_refl _⟩
theorem LeF.trans {a b c:List Int} (h:LeF a b) (k:LeF b c):LeF a c:=⟨h.1.trans k.1,λj=>Int.le_trans (h.2 j) (k.2 j)⟩
theorem LeF.set {a:List Int} {i:Nat} {x:Int} (h:χ a i 0<=x):LeF a (a.set i x):=by
 refine⟨zs,λj=> ?_⟩;by_cases KY:i=j
 . subst KY
   rcases zLg i (I a) with hl|hl
   . rw[gD_same hl];exact h
   rw[List.set_eq_of_length_le hl];exact Int.le_refl _
 rw[gD_other KY];exact Int.le_refl _
theorem relax_le (T:dX) (far:List Int) (i k:Nat):LeF far (vA T far i k):=by
 unfold vA;split
 . exact LeF.refl _
 split
 . exact LeF.set zo
 exact LeF.refl _
theorem row_le (T:dX) (i:Nat):∀ (k:Nat) (far:List Int),LeF far (zeH T i k far)
 | 0,far=>LeF.refl _
 | k+1,far=>(row_le T i k far).trans (relax_le T _ i k)
theorem zh9 (T:dX) (m:Nat):∀ (i:Nat) (far:List Int),LeF far (kO T m i far)
 | 0,far=>LeF.refl _
 | i+1,far=>(zh9 T m i far).trans (row_le T i m _)
end Go.Proofs.YtmfnmkccbldfpaaGreatDoor
namespace Go.Proofs.YtmfnmkccbldfpaaGreatDoor
open Go.RowKit Go.Lib Tryz
mutual
def pG:aL->Nat->Nat
 | .cL _,_=>2
 | .row l,n=>yT l n
 | .either a b,n=>pG a n+(if n+gJ a<=65 then pG b (n+gJ a) else 0)+4
 | .rep t _ _,n=>pG t n+5
def yT:List aL->Nat->Nat
 | [],_=>0
 | t::l,n=>pG t n+(if n+gJ t<=65 then yT l (n+gJ t) else 0)
end
mutual
theorem oC:∀ (t:aL) (n:Nat),n+gJ t<=65->pG t n=nK t
 | .cL c,n,h=>by rfl
 | .row l,n,h=>by
  rw[gJ] at h;rw[pG,nK];exact ze8 l n h
 | .either a b,n,h=>by
  rw[gJ] at h;rw[pG,nK,zP zo,oC a n zo,oC b _ zo]
 | .rep t m o,n,h=>by
  rw[gJ] at h;rw[pG,nK,oC t n h]
theorem ze8:∀ (l:List aL) (n:Nat),n+jO l<=65->yT l n=sD l
 | [],n,h=>by rfl
 | t::l,n,h=>by
  rw[jO] at h;rw[yT,sD,zP zo,oC t n zo,ze8 l _ zo]
end
mutual
theorem zco:∀ (t:aL) (i p:Nat) (s s':bC),fE t i s=some (p,s')->I s.cL<=65->I s'.cL<=65
 | .cL c,i,p,s,s',h,hs=>by
  grind [fE]
 | .row l,i,p,s,s',h,hs=>by
  rw[fE] at h;exact layR_le l i p s s' h hs
 | .either a b,i,p,s,s',h,hs=>by
  rw[fE] at h;split at h
  . cases h
  . rename_i p1 s2 e1
    split at h
    . cases h
    . rename_i q s3 e2
      cases h;have h3:=zco b _ _ _ _ e2 (zco a _ _ _ _ e1 hs);exact h3
 | .rep t m o,i,p,s,s',h,hs=>by
  rw[fE] at h;split at h
  . cases h
  rename_i p1 s2 e1
  have h1:=zco t _ _ _ _ e1 hs;cases h;exact zzCk
theorem layR_le:∀ (l:List aL) (i p:Nat) (s s':bC),qL l i s=some (p,s')->I s.cL<=65->I s'.cL<=65
 | [],i,p,s,s',h,hs=>by
  grind [qL]
 | t::l,i,p,s,s',h,hs=>by
  rw[qL] at h;split at h
  . cases h
  rename_i q s2 e1
  exact layR_le l _ _ _ _ h (zco t _ _ _ _ e1 hs)
end
theorem zd0 {t:aL} {i p:Nat} {s s':bC} (h:fE t i s=some (p,s')) (hs:I s.cL<=65):I s.cL+gJ t<=65/\I s'.cL=I s.cL+gJ t/\pG t (I s.cL)=nK t:=by
 have:=qM _ _ _ _ _ h
 grind [zco,qJ,oC]
theorem layT_none {t:aL} {i:Nat} {s:bC} (hs:I s.cL<=65) (h:65<I s.cL+gJ t):fE t i s=none:=by
 cases hx:fE t i s with
 | none=>rfl
 | some ps=>
  obtain⟨p,s2⟩:=ps;have:=(zd0 hx hs).1;omega
theorem zfa (t:aL):∀ (l:List aL) (n:Nat),n<=65->yT (l++[t]) n=if n+jO l<=65 then sD l+pG t (n+jO l) else yT l n
 | [],n,hn=>by
  grind [jO,sD,yT]
 | u::l,n,hn=>by
  rw[List.cons_append,yT];by_cases h:n+gJ u<=65
  . rw[zP h,zfa t l _ h,jO,sD,yT,zP h,oC u n h,<-Nat.add_assoc n]
    grind
  grind [jO,yT]
theorem ze9 {K:Nat}:∀ (l:List aL),(∀ x∈l,nK x<=K*gJ x/\∀ n,n<=65->pG x n<=K*(66-n))->∀ n,n<=65->yT l n<=K*(66-n)
 | [],_,n,_=>by rw[yT];omega
 | t::l,h,n,hn=>by
  obtain⟨h1,h2⟩:=h t List.mem_cons_self;rw[yT];split
  . rename_i qo
    have:=ze9 l (λx hx=>h x (List.mem_cons_of_mem _ hx)) _ qo;rw[oC t n qo];have:K*(66-n)=K*gJ t+K*(66-(n+gJ t)):=by rw[<-Nat.mul_add];congr 1;omega
    omega
  grind
end Go.Proofs.YtmfnmkccbldfpaaGreatDoor
namespace Go.Proofs.YtmfnmkccbldfpaaGreatDoor
open Go.RowKit Go.Lib Tryz
variable {i f:Nat} {sT:List η}
inductive qX where
 | ok (s:bC) (L:iT)
 | err (e i k:Nat)
inductive uR (f:Nat) (sT:List η) (R:qX):Nat->bC->iT->Prop where
 | done {i:Nat} {s:bC} {L:iT} (hi:i=I sT) (h:R=.ok s L):uR f sT R i s L
 | parse {i:Nat} {s:bC} {L:iT} {str:η} {er:mP} (hs:sT[i]?=some str) (hf:nI str (4*str.size+10) 0 0≠ .error (0,0)) (he:iE str=.error er) (h:R=.err er.1 i er.2):uR f sT R i s L
 | full {i:Nat} {s:bC} {L:iT} {str:η} {t:aL} (hs:sT[i]?=some str) (ht:iE str=.ok t) (hl:fE t (I s.kN) (s.push ⟨[],0,false⟩)=none)
  (Ej:I s.cL<=65/\∀ k,I (bD (s.push ⟨[],0,false⟩).kN k)+pG t (I s.cL)<=1000000) (h:R=.err 6 i 0):uR f sT R i s L
 | next {i:Nat} {s:bC} {L:iT} {str:η} {t:aL} {e:Nat} {s1:bC} {l:ο} {L2:iT} (hs:sT[i]?=some str) (ht:iE str=.ok t) (hl:fE t (I s.kN) (s.push ⟨[],0,false⟩)=some (e,s1))
  (hd:dfs (s1.fI e).kN f (I s.kN) []=some l)
  (hp:gB (s1.fI e).kN f i (s1.bE.drop (I s.bE)) {L with cL:=s1.cL,fO:=L.fO.modify 0 (aZ.or · (aO (s1.fI e).kN l))}=some L2)
  (hm:pK (s1.fI e)) (h:uR f sT R (i+1) (s1.fI e) L2):uR f sT R i s L
theorem pO {α:Type} {l:List α} {x:α} (h:l[i]?=some x):i<I l:=(List.getElem?_eq_some_iff.1 h).1
def LayG (f:Nat) (sT:List η) (R:qX) (i:Nat) (s:bC) (L:iT) (str:η):Prop:=
 (∃ er:mP,nI str (4*str.size+10) 0 0≠ .error (0,0)/\iE str=.error er/\R=.err er.1 i er.2)\/
 ∃ t,iE str=.ok t/\((fE t (I s.kN) (s.push ⟨[],0,false⟩)=none/\(I s.cL<=65/\∀ k,I (bD (s.push ⟨[],0,false⟩).kN k)+pG t (I s.cL)<=1000000)/\R=.err 6 i 0)\/
  ∃ e s1 l L2,fE t (I s.kN) (s.push ⟨[],0,false⟩)=some (e,s1)/\dfs (s1.fI e).kN f (I s.kN) []=some l/\
   gB (s1.fI e).kN f i (s1.bE.drop (I s.bE)) {L with cL:=s1.cL,fO:=L.fO.modify 0 (aZ.or · (aO (s1.fI e).kN l))}=some L2/\pK (s1.fI e)/\uR f sT R (i+1) (s1.fI e) L2)
theorem uR.get {R:qX} {s:bC} {L:iT} (h:uR f sT R i s L) {str:η} (hs:sT[i]?=some str):LayG f sT R i s L str:=by
 cases h with
 | done hi h=>grind
 | parse x8 hf he h=>
  rw[hs] at x8;cases x8;exact .inl ⟨_,hf,he,h⟩
 | full x8 ht hl Ej h=>
  rw[hs] at x8;cases x8;exact .inr ⟨_,ht,.inl ⟨hl,Ej,h⟩⟩
 | next x8 ht hl hd hp hm h=>
  rw[hs] at x8;cases x8;exact .inr ⟨_,ht,.inr ⟨_,_,_,_,hl,hd,hp,hm,h⟩⟩
theorem uR.end' {R:qX} {s:bC} {L:iT} (h:uR f sT R i s L) (hi:i=I sT):R=.ok s L:=by
 cases h with
 | done _ h=>exact h
 | parse hs=>grind
 | full hs=>grind
 | next hs=>grind
theorem zep {R:qX}:∀ (ts:List aL) (i:Nat) (s:bC) (L:iT) (s2:bC) (L2:iT),iC f ts i s L=some (s2,L2)->
 (∀ (j:Nat) (t:aL),ts[j]?=some t->∃ str,sT[i+j]?=some str/\iE str=.ok t)->pK s2->uR f sT R (i+I ts) s2 L2->uR f sT R i s L
 | [],i,s,L,s2,L2,h,_,_,hv=>by
  grind [iC]
 | t::ts,i,s,L,s2,L2,h,hp,hm,hv=>by
  rw[iC] at h;split at h
  . cases h
  rename_i e s1 h1
  split at h
  . cases h
  rename_i l h2
  split at h
  . cases h
  rename_i L3 h3
  obtain⟨str,hs,ht⟩:=hp 0 t rfl;have h4:uR f sT R (i+1) (s1.fI e) L3:=zep ts (i+1) _ _ _ _ h (λj u hj=>by
   obtain⟨str2,h5,h6⟩:=hp (j+1) u hj
   grind) hm zg
  exact .next hs ht h1 h2 h3 (hm.of_later (zbG _ _ _ _ _ _ h)) h4
end Go.Proofs.YtmfnmkccbldfpaaGreatDoor
namespace Go.Proofs.YtmfnmkccbldfpaaGreatDoor
open Go.RowKit Go.Lib Tryz
structure R3St (w0:ω) (n:Nat) (cU:List Int) (ms:List aZ) (tb bc cc mb mp:Nat) (rc:ζ) (rU:List Int) (gO:List (List Int)) (vr vg:Value) (yt:ζ) (F:aZ) (fb rb:Nat) (V2:Option (List aZ×List Int)) (k:Nat) (tag:Nat->Nat) (sE:List aZ) (row:List Int) (vs:Value) (wr:ω):Prop where
 m:jM w0 n cU ms tb bc cc mb mp rc tag sE rU gO vs vr vg yt wr
 rr:wr.r 3 1 (σ rb n n) n (dP (row++ψ (n-k) 0))
 tr:tag rb=7
 fs:kS wr fb F
 tf:tag fb=8
 lk:I row=k
 rest:kG F (ms.drop k) sE row=V2
 ok:∀ s∈sE,s.Ok
 nd:sE.Nodup
 le:I sE<=201
section
variable {w0 w w':ω} {n:Nat} {cU:List Int} {ms:List aZ} {tb bc cc mb mp:Nat} {rc:ζ} {tag:Nat->Nat} {sE:List aZ} {rU:List Int} {gO:List (List Int)} {vs vr vg:Value} {yt:ζ} {F:aZ} {fb rb:Nat} {V2:Option (List aZ×List Int)} {k:Nat} {row:List Int}
theorem R3St.later (h:R3St w0 n cU ms tb bc cc mb mp rc rU gO vr vg yt F fb rb V2 k tag sE row vs w) (hb:w.u w'):R3St w0 n cU ms tb bc cc mb mp rc rU gO vr vg yt F fb rb V2 k tag sE row vs w':=
 ⟨h.m.later hb,aN h.rr hb,h.tr,(hb.block fb (aA h.fs)).trans h.fs,h.tf,h.lk,h.rest,h.ok,h.nd,h.le⟩
theorem zh5 (r:List Int) (k:Nat) (x:Int):(r++ψ (k+1) (0:Int)).set (I r) x=r++[x]++ψ k 0:=by
 grind
theorem R3St.store (h:R3St w0 n cU ms tb bc cc mb mp rc rU gO vr vg yt F fb rb V2 k tag sE row vs w) (hk:k<n) (x:Int) (Ha:kG F (ms.drop (k+1)) sE (row++[x])=V2):
 R3St w0 n cU ms tb bc cc mb mp rc rU gO vr vg yt F fb rb V2 (k+1) tag sE (row++[x]) vs (ς w (rb.p k) (ι x)):=by
 have hg:w.grownBy (ς w (rb.p k) (ι x)) (some rb):=bQ _ rb k _;have qg:fb≠rb:=λe=>by have:=h.tf;rw[e,h.tr] at this;omega
 have r1:=(h.rr.stored k (ι x)).1;have e:(dP (row++ψ (n-k) 0)).set k (ι x)=dP (row++[x]++ψ (n-(k+1)) 0):=by
  exact zzCG
 rw[e] at r1;exact⟨h.m.other rb (by rw[h.tr];decide) hg,r1,h.tr,(aD _ _ _ _ qg).trans h.fs,h.tf,by simp[h.lk],Ha,h.ok,h.nd,h.le⟩
theorem R3St.put {gs cs:Nat} (h:R3St w0 n cU ms tb bc cc mb mp rc rU gO vr vg yt F fb rb V2 k tag sE row (σ gs (I sE) cs) w) (to':aZ) (Hq:to'.Ok) (K6:sE.findIdx? (λx=>decide (x=to'))=none) (KC:I sE<=200) {w1 w2:ω} (hg:w.g w1 mp) (hm:MpAt w1 mp (sE++[to'])) (ob:Obj) (v':Value)
 (Hb:w2.r 176 2 v' (I sE+1) (setCells sE++[υ to'.1,υ to'.2])) (Qm:(κ w1 ob).g w2 gs) (qh:β v'=some gs\/β v'=some (κ w1 ob).heap.size)
 (x:Int) (hk:k<n) (Ha:kG F (ms.drop (k+1)) (sE++[to']) (row++[x])=V2):
 R3St w0 n cU ms tb bc cc mb mp rc rU gO vr vg yt F fb rb V2 (k+1) (dI tag (w1.t+1) 3) (sE++[to']) (row++[x]) v' (ς w2 (rb.p k) (ι x)):=by
 obtain⟨hM,XQ⟩:=h.m.putApp to' hg hm ob v' Hb Qm qh;have SJ:=h.m.t2;have lrb:=(h.rr.lt rb rfl).2;have lfb:=aA h.fs;obtain⟨k1,t1⟩:=XQ rb lrb (λe=>by have:=h.tr;grind) (by rw[h.tr];decide);obtain⟨k2,t2⟩:=XQ fb lfb (λe=>by have:=h.tf;grind) (by rw[h.tf];decide);have qk:w2.grownBy (ς w2 (rb.p k) (ι x)) (some rb):=bQ _ rb k _;have qg:fb≠rb:=λe=>by have:=h.tf;rw[e,h.tr] at this;omega
 have DH:w2.r 3 1 (σ rb n n) n (dP (row++ψ (n-k) 0)):=aU h.rr (λg hg=>by cases hg;exact k1);have r1:=(DH.stored k (ι x)).1;have e:(dP (row++ψ (n-k) 0)).set k (ι x)=dP (row++[x]++ψ (n-(k+1)) 0):=by
  exact zzCG
 rw[e] at r1;rw[List.findIdx?_eq_none_iff] at K6;refine⟨hM.other rb (by rw[t1,h.tr];decide) qk,r1,t1.trans h.tr,(aD _ _ _ _ qg).trans (k2.trans h.fs),t2.trans h.tf,by simp[h.lk],Ha,λs hs=> ?_,?_,zg⟩
 . rcases List.mem_append.1 hs with hs|hs
   . exact h.ok s hs
   rw[zMs] at hs;subst hs;exact Hq
 rw[List.nodup_append]
 refine⟨h.nd,zs,λa ha b hb e=> ?_⟩
 grind
end
structure OSt3 (w:ω) (L:iT) (n:Nat) (cU:List Int) (ms:List aZ) (V:Option (List Int×List (List Int))) (tb bc cc mb mp:Nat) (rc:ζ) (f i:Nat) (tag:Nat->Nat) (sE:List aZ) (rU:List Int) (gO:List (List Int)) (vs vr vg:Value) (yt:ζ) (wr:ω):Prop where
 m:jM w n cU ms tb bc cc mb mp rc tag sE rU gO vs vr vg yt wr
 rest:cO L ms f sE rU gO=V
 lr:I rU=i
 lg:I gO=i
 ok:∀ s∈sE,s.Ok
 nd:sE.Nodup
 le:I sE<=201
 fu:202<=f+i
def MakeV (V:Option (List Int×List (List Int))) (T:dX) (w:ω) (e:Ending) (w':ω):Prop:=(V=none/\e=ρ (ϕ #[Φ none,φ false])/\w.u w')\/(∃ p,V=some p)/\MakeO T w e w'
def MakeH (L:iT) (T:dX) (rU:List Int) (gO:List (List Int)):Prop:=∃ (R f:Nat) (Hx:Int) (b2:rF),yV ⟨bG L.cL,rU,gO,0⟩ R/\eU ⟨bG L.cL,rU,gO,0⟩ f (I gO) 0 0 ⟨ψ (I gO) 0,ψ (I gO) 0,false⟩=some (Hx,b2)/\(∀ j,χ b2.far j 0<=1000000)/\I gO<1000000/\T=⟨bG L.cL,rU,gO,if b2.round then -1 else Hx+1⟩
def rowV (L:iT) (ms:List aZ) (f:Nat) (rU:List Int) (gO:List (List Int)):Option (List aZ×List Int)->Option (List Int×List (List Int))
 | none=>none
 | some (sets2,row)=>cO L ms f sets2 rU (gO++[row])
theorem make_v (L:iT) (bl:Nat) (w:ω) (hl:xD w bl L) (yp:0<I L.cL) (hn:I L.cL<=65) (hr:∀ c∈L.cL,iF c) (hW:Wid w) (hG:jV<=w.t) (Vo:I (fJ L.cL)<1000000)
 (Bv:I L.rU=I L.cL) (Cl:I L.fO=I L.cL) (hfok:∀ x∈L.fO,x.Ok) (V:Option (List Int×List (List Int))) (K4:cO L ((bG L.cL).map (bP L.cL)) 202 [(1,0)] [] []=V)
 (T:dX) (hV:∀ rU gO,V=some (rU,gO)->MakeH L T rU gO):
 Γ 30 #[aF bl] w (MakeV V T w):=by
 have HL:=zh hl;have HM:=Θ K4 hV;have HW:=zh hW;have HQ:=Λ Bv Cl hfok;have ym:I (bG L.cL)<1000000:=Nat.lt_of_le_of_lt (zcW _) Vo;have Aa:=zh Vo;have HRG:=zh hr;clear hl K4 hV hW Bv Cl hfok Vo hr;go_in;go_upto_region 2 with (go_at_call 66;refine (cuts_any L bl _ HL.o yp HRG.o HW.o hG Aa.o).mono ?_;rintro e w1 ⟨bc,cc,rc,rfl,qc,Az,Hk,Gw⟩)
 have Po:eP (κ w1 (Ω #[σ bc (I (bG L.cL)) cc,ν,ν,ι 0] 183)) bc (bG L.cL).toArray rc:=(bS _ _ _ (aA qc)).trans qc;have Xy:(κ w1 (Ω #[σ bc (I (bG L.cL)) cc,ν,ν,ι 0] 183)).h w1.t #[σ bc (I (bG L.cL)) cc,ν,ν,ι 0] 183:=bA _ _ _ rfl
 have Hm:w.u (κ w1 (Ω #[σ bc (I (bG L.cL)) cc,ν,ν,ι 0] 183)):=Hk.alloc Hk.size _;have NF:w.heap.size<=w1.heap.size/\bc<w1.t:=⟨Hk.size,aA qc⟩;obtain⟨tb,Rl⟩:=zE (w1.heap.size);rw[<-Rl] at Xy NF ⊢;generalize w1.alloc (Ω #[σ bc (I (bG L.cL)) cc,ν,ν,ι 0] 183)=w2 at Po Xy Hm ⊢;clear Rl qc Hk;have lt2:=aA Xy
 have OK:=make_sets (I (bG L.cL)) zo w2;have t0:=zq 0 Xy;have Jo:M1St w L.cL (bG L.cL) tb bc cc w2.t rc 0 (κ w2 (Ω (setCells (ψ (I (bG L.cL)) (0,0))).toArray 176)):=by
  refine⟨Hm.alloc Hm.size _,(bS _ _ _ lt2).trans Xy,(bS _ _ _ (aA Po)).trans Po,?_,zo,zo,zo,NF.1,Az,Hm.size⟩;refine⟨by simp[rJ],.inr ⟨w2.t,_,_,rfl,rC,bA _ _ _ rfl,bR,by unfold maxLen;omega,by simp[rJ],?_⟩⟩;have e:I (setCells (ψ (I (bG L.cL)) (0,0)))=I (bG L.cL)*2:=by simp[rJ]
  show List.take _ (setCells (ψ (I (bG L.cL)) (0,0)))=_;rw[List.take_of_length_le zo];simp
 have de:=zh Jo;have Lq:=zh Gw;clear Gw;obtain⟨mb,T0⟩:=zE (w2.heap.size);rw[<-T0] at de;clear Jo Po Xy Hm;go_upto_region 3 with fail
 rw[<-T0];generalize w2.alloc (Ω (setCells (ψ (I (bG L.cL)) (0,0))).toArray 176)=w3 at de ⊢;have t03:=zq 0 de.o.ht;clear t0 OK lt2 T0;go_wp2_with fail;clear t03;go_loopw [36] (λs36 wr=>∃ i:Nat,s36=ι i/\i<=I (bG L.cL)/\M1St w L.cL (bG L.cL) tb bc cc mb rc i wr) (λs36 _=>I (bG L.cL)-(ϑ s36).toNat)
 case atStart=>exact⟨0,rfl,zo,de.o⟩
 case round=>
  obtain⟨i,rfl,hi,hS⟩:=hrel;have HS:=zh hS;clear hS;by_cases Hf:i<I (bG L.cL)
  . have hz:(i:Int)<(I (bG L.cL):Int):=zo
    obtain⟨c,hc⟩:∃ c,(bG L.cL)[i]?=some c:=⟨(bG L.cL)[i],zLe Hf⟩;have:wr.v bc i (ξ c):=by
     rw[bF _ _ i _ _ _ HS.o.fCuts];simp[zGl,Hf];exact (List.getElem?_eq_some_iff.1 hc).2
    have lbc:=aA HS.o.fCuts;have K2:xD wr bl L:=HL.o.ext HS.o.below.block;have FC:=zh K2;have HC:=zh hc;have Xp:=mF i;clear K2 hc;have y7:∀ w',wr.u w'->(∃ u,w'.v mb (i*2) u)/\(∃ u,w'.v mb (i*2+1) u)/\w'.q mb (i*2)/\w'.q mb (i*2+1)/\mb<w'.t:=λw' hb=>by
     have h:=(HS.o.later hb).fMs;have hl:I (setCells (((bG L.cL).take i).map (bP L.cL)++ψ (I (bG L.cL)-i) (0,0)))=I (bG L.cL)*2:=by
      rw[rJ];simp;omega
     exact⟨⟨_,aJ h (i*2) _ (zLe zo)⟩,⟨_,aJ h (i*2+1) _ (zLe zo)⟩,h.frozenAt _,h.frozenAt _,(h.lt mb rfl).2⟩
    have ug:=zh y7;clear y7;go_wp2_with (first|(go_at_call 67;refine (zgF L bl c _ (by exact FC.o) yp zo).mono ?_;rintro e w' ⟨rfl,Hq,MI⟩;obtain⟨⟨u0,m0⟩,⟨u1,m1⟩,fm0,fm1,Y6⟩:=ug.o w' MI;have HBM:=zh MI;clear Hq MI;unfold qV));go_roundw
    case rel=>exact⟨i+1,by go_num,zo,(HS.o.later HBM.o).put Hf c HC.o _ rfl⟩
    case measure=>exact zY
  have hz:¬ (i:Int)<(I (bG L.cL):Int):=zo
  have P0:i=I (bG L.cL):=zo
  subst P0;have xt:aZ.add (0,0) 0=(1,0):=zd
  have wn:=zh xt;have ry:kS (κ wr (Ω #[υ 0,υ 0] 176)) wr.t (0,0):=bA _ _ _ rfl;have WB:=zh ry;clear xt ry;go_upto_region 11 with (go_at_call 68;refine (zbw wr.t 0 (0,0) _ (by exact WB.o) ⟨zd,zd⟩ zd).mono ?_;rintro e w4 ⟨rfl,Ny,ql⟩;rw[wn.o] at Ny;obtain⟨d0,d1⟩:=Ny.cells;have l4:=aA Ny;have vk:=Θ Ny ql;clear Ny ql)
  obtain⟨w5,Xz⟩:=zE (κ w4 (Ω #[υ 1,υ 0] 176));have e0:(κ w5 (.map #[] 0)).v wr.t 0 (υ 1):=by
   have h1:w5.cell? wr.z=w4.cell? wr.z:=by rw[Xz];exact aG (Ξ w4 _) _ l4
   have h2:(κ w5 (.map #[] 0)).cell? wr.z=w5.cell? wr.z:=aG (Ξ w5 _) _ (by rw[Xz];simp;omega);rw[h2,h1];exact d0
  have e1:(κ w5 (.map #[] 0)).v wr.t 1 (υ 0):=by
   have h1:w5.cell? (wr.y 1)=w4.cell? (wr.y 1):=by rw[Xz];exact aG (Ξ w4 _) _ l4
   have h2:(κ w5 (.map #[] 0)).cell? (wr.y 1)=w5.cell? (wr.y 1):=aG (Ξ w5 _) _ (by rw[Xz];simp;omega);rw[h2,h1];exact d1
  obtain⟨w7,OL,OI,VK⟩:=map_put (map_new w5) (λs hs=>by cases hs) (1,0) ⟨zd,zd⟩ rfl;have:(Instr.mapUpdate 186 (.map (some w5.heap.size)) (.agg #[υ 1,υ 0]) (ι 0)).run prog (κ w5 (.map #[] 0))=.ok () w7:=OL;have hk:∀ b,b<wr.heap.size->w7.e wr b:=λb hb=>by
   have k4:=(vk.o.2.block b zx (λe=>by cases e;omega)).trans (bS wr _ b hb);have k5:w5.e w4 b:=by rw[Xz];exact bS _ _ _ zo
   have s5:w5.heap.size=w4.heap.size+1:=by rw[Xz];simp
   have k7:=(VK.block b zx (λe=>by cases e;omega)).trans (bS w5 _ b zo);exact k7.trans (k5.trans k4)
  have s5:w5.heap.size=w4.heap.size+1:=by rw[Xz];simp
  have I6:jM w (I (bG L.cL)) (bG L.cL) ((bG L.cL).map (bP L.cL)) tb bc cc mb w5.t rc (λb=>if b=tb then 1 else if b=w5.t then 2 else if b=w4.t then 3 else if b=bc then 6 else if b=mb then 6 else 0) [(1,0)] [] [] (σ w4.t 1 1) ν ν [] w7:=by
   have:=HS.o.ne;have Js:=aA HS.o.ht;have lbc:=aA HS.o.fCuts;have Y6:=(HS.o.fMs.lt mb rfl).2;have qh:=HS.o.below;have hsz7:=VK.size;refine⟨by unfold jV at hG;omega,⟨?_,?_,?_,?_,λb hb=>(hk b (zLd hb qh.size)).trans (qh.block b hb)⟩,λg hg=> ?_,(hk tb Js).trans HS.o.ht,(hk bc lbc).trans HS.o.fCuts,?_,OI,?_,qD _ _ _,qD _ _ _,(λi row hr=>by simp at hr),zs,?_,?_,(λg hg=>by cases hg),(λg hg=>by cases hg),⟨?_,?_⟩⟩
   . exact VK.os.trans ((by rw[Xz];rfl:w5.os=w4.os).trans (vk.o.2.os.trans qh.os))
   . exact VK.tape.trans ((by rw[Xz];rfl:w5.tape=w4.tape).trans (vk.o.2.tape.trans qh.tape))
   . exact VK.output.trans ((by rw[Xz];rfl:w5.output=w4.output).trans (vk.o.2.output.trans qh.output))
   . have:=qh.size;simp at hsz7;omega
   . have:=qh.size
     split at hg
     . omega
     split at hg
     . omega
     split at hg
     . omega
     split at hg
     . omega
     split at hg
     all_goals omega
   . refine aU (by simpa using HS.o.fMs) λg hg=>by cases hg;exact hk mb Y6
   . refine⟨rfl,.inr ⟨w4.t,1,#[υ 1,υ 0],rfl,rC,?_,bR,zd,rfl,rfl⟩⟩
     refine (VK.block w4.t zx (λe=>by injection e with e;omega)).trans ((bS w5 _ _ zo).trans ?_);rw[Xz];exact bA _ _ _ rfl
   . rw[zN zo,zP rfl]
   . intro g hg
     have QY:g=w4.t:=by cases hg;rfl
     subst QY;show (if w4.t=tb then 1 else if w4.heap.size=w5.heap.size then 2 else if w4.heap.size=w4.heap.size then 3 else if w4.t=bc then 6 else if w4.t=mb then 6 else 0)=3;rw[zN zo,zN zo,zP rfl]
   . rw[zN zo,zN zo,zN zo,zP rfl]
   rw[zN zo,zN zo,zN zo,zN zo,zP rfl]
  have AV:=zh I6;have:(Instr.makeMap 186 none).run prog w5=.ok (.map (some w5.heap.size)) (κ w5 (.map #[] 0)):=zK
  rw[<-Xz];clear I6 OL OI VK hk Xz d0 d1 s5;obtain⟨vc,vf,vr0,Ql,VN,Q9,CS,SI,U8⟩:=HL.o;rw[HQ.o.1] at SI;rw[HQ.o.2.1] at U8;obtain⟨gc,Jc,rfl⟩:∃ g cap,vc=σ g (I L.cL) cap:=by
   rcases aY Q9 with⟨_,h0⟩|⟨g,cap,e,_⟩
   . omega
   exact⟨g,cap,e⟩
  obtain⟨gf,capf,rfl⟩:∃ g cap,vf=σ g (I L.cL) cap:=by
   rcases aY U8 with⟨_,h0⟩|⟨g,cap,e,_⟩
   . omega
   exact⟨g,cap,e⟩
  obtain⟨gr,capr,rfl⟩:∃ g cap,vr0=σ g (I L.cL) cap:=by
   rcases aY SI with⟨_,h0⟩|⟨g,cap,e,_⟩
   . omega
   exact⟨g,cap,e⟩
  have Kk:=Λ VN SI U8;clear VN Q9 CS SI U8;go_wp2_with fail;go_loopg [9,11] 202 (λgh s9 VT wr=>∃ (i gs cs f:Nat) (tag:Nat->Nat) (sE:List aZ) (rule':List Int) (YN:List (List Int)) (vr vg:Value) (yt:ζ),s9=σ gs (I sE) cs/\VT=ι i/\f=gh/\OSt3 w L (I (bG L.cL)) (bG L.cL) ((bG L.cL).map (bP L.cL)) V tb bc cc mb w5.t rc f i tag sE rule' YN s9 vr vg yt wr)
  case atStart=>
   exact⟨0,_,_,_,_,_,_,_,_,_,_,rfl,rfl,rfl,AV.o,HM.o.1,rfl,rfl,λs hs=>by rw[zMs] at hs;subst hs;exact⟨zd,zd⟩,List.nodup_cons.2 ⟨zs,List.nodup_nil⟩,zd,zd⟩
  case round=>
   obtain⟨i,gs,cs,f9,tag,sE,rule',YN,vr,vg,yt,rfl,rfl,hf9,hO⟩:=hrel;have HF9:=zh hf9;clear hf9;have HO:=zh hO;clear hO;by_cases Hf:i<I sE
   . have hz:=zt i (I sE)
     obtain⟨f',rfl⟩:∃ f',f9=f'+1:=by
      cases f9 with
      | zero=>have:=HO.o.fu;have:=HO.o.le;omega
      | succ k=>simp
     have Ha:=HO.o.rest;rw[cO,zP zzDf,HO.o.lr] at Ha;obtain⟨s,hs⟩:=zE (χ sE i (0,0));rw[<-hs] at Ha;have lp:sE[i]?=some s:=by rw[hs,zLf,zLe Hf];rfl
     have Re:s.Ok:=HO.o.ok s (zM lp);have Ye:=zh Ha;have FP:=Θ lp Re;have qo:=HO.o.le;clear Ha hs lp Re;go_upto_region 17 with fail
     have IN:=HO.o.m.mark (Ξ wr (Ω #[υ 0,υ 0] 176)) wr.t 8 bR zd;have Sq:kS (κ wr (Ω #[υ 0,υ 0] 176)) wr.t (0,0):=bA _ _ _ rfl;generalize wr.alloc (Ω #[υ 0,υ 0] 176)=wA at IN Sq ⊢;obtain⟨fb,xg⟩:=zE (wr.heap.size);rw[<-xg] at IN Sq ⊢;have Ie:dI tag fb 8 fb=8:=mC _ _ _;generalize dI tag fb 8=tagA at IN Ie;have HTG:=zh Ie;have HMA:=Θ IN Sq
     have lbl0:=(IN.below.block bl (aA Kk.o.1)).trans Kk.o.1;have q0:=zq 0 lbl0;clear IN Sq xg Ie lbl0;go_wp2_with fail;clear q0
     go_loopw [13,65] (λs13 s65 wr2=>∃ (j:Nat),s65=ι j/\j<=I L.cL/\s13=ι (bU L s j).2/\jM w (I (bG L.cL)) (bG L.cL) ((bG L.cL).map (bP L.cL)) tb bc cc mb w5.t rc tagA sE rule' YN (σ gs (I sE) cs) vr vg yt wr2/\kS wr2 fb (bU L s j).1/\(bU L s j).1.Ok/\ -1<=(bU L s j).2) (λ_ s65 _=>I L.cL-(ϑ s65).toNat)
     case atStart=>exact⟨0,rfl,zo,rfl,HMA.o.1,HMA.o.2,show aZ.Ok (0,0) from⟨zd,zd⟩,show (-1:Int)<= -1 by decide⟩
     case round=>
      obtain⟨j,rfl,hj,rfl,YR,Ya,ig,js⟩:=hrel;have Af:=Θ YR Ya;have uw:=zh ig;by_cases xi:j<I L.cL
      . have RU:=zt j (I L.cL)
        have:=mF j;have QU:=yI sE i s FP.o.1;rw[Nat.mul_comm 2 i] at QU;have:=aJ YR.fSets _ _ QU.1;have:=aJ YR.fSets _ _ QU.2;have P6:bU L s (j+1)=if s.has j then ((bU L s j).1.or (χ L.fO j (0,0)),if 0<=χ L.rU j (-1)/\((bU L s j).2<0\/χ L.rU j (-1)<(bU L s j).2) then χ L.rU j (-1) else (bU L s j).2) else bU L s j:=rfl
        have Qo:=zh P6;clear P6 QU YR Ya ig;cases hh:s.has j with
        | false=>
         have HH:=zh hh;clear hh;go_wp2_with (first|(go_at_call 69;refine (zdO j s _ (by exact FP.o.2) zo).mono ?_;rintro e w' ⟨rfl,ME⟩;rw[HH.o];have Lj:=zh ME;clear ME));go_roundw
         case rel=>
          have hn:=Qo.o;rw[HH.o] at hn;exact⟨j+1,by go_num,zo,by rw[hn];rfl,Af.o.1.later Lj.o,by rw[hn];exact (Lj.o.block fb (aA Af.o.2)).trans Af.o.2,by rw[hn];exact uw.o,by rw[hn];exact js⟩
         case measure=>exact zY
        | true=>
         have HH:=zh hh;clear hh;go_upto_region 21 with (go_at_call 69;refine (zdO j s _ (by exact FP.o.2) zo).mono ?_;rintro e w' ⟨rfl,ME⟩;rw[HH.o];have Lj:=zh ME;clear ME)
         obtain⟨F,hF⟩:=zE ((bU L s j).1);obtain⟨r,hr⟩:=zE ((bU L s j).2);obtain⟨x,hx⟩:=zE (χ L.fO j (0,0));obtain⟨rj,hrj⟩:=zE (χ L.rU j (-1));have hn:=Qo.o;rw[HH.o,zP rfl,<-hF,<-hr,<-hx,<-hrj] at hn;have HN:=zh hn;have hxs:L.fO[j]?=some x:=by rw[hx,zLf,zLe (by rw[HQ.o.2.1];exact xi)];rfl
         have Tb:L.rU[j]?=some rj:=by rw[hrj,zLf,zLe (by rw[HQ.o.1];exact xi)];rfl
         have R9:=Θ (by rw[hF];exact uw.o:F.Ok) (HQ.o.2.2 x (zM hxs));have Di:kS w' fb F:=by rw[hF];exact (Lj.o.block fb (aA Af.o.2)).trans Af.o.2
         have Jm:=Af.o.1.later Lj.o;rw[<-hr] at js ⊢;have QX:=(Jm.below.block bl (aA Kk.o.1)).trans Kk.o.1;have tj:=aU Kk.o.2.2 (λg hg=>Jm.below.block g (Kk.o.2.2.lt g hg).2);have DH:=aU Kk.o.2.1 (λg hg=>Jm.below.block g (Kk.o.2.1.lt g hg).2);have qk:=yI L.fO j x hxs;rw[Nat.mul_comm 2 j] at qk;have yf0:=aJ tj _ _ qk.1;have yf1:=aJ tj _ _ qk.2;have yl1:=zq 1 QX;have yl2:=zq 2 QX
         obtain⟨y0,y1⟩:=Di.cells;have lfb:=aA Di;have lbl:=aA QX;have lgf:=(tj.lt gf rfl).2;have yr:=Θ Jm Di;have HRJ:=zh Tb;clear hF hr hx hrj hn hxs Tb Jm Di QX tj DH qk;refine wp_region_noPanic ?_
         refine bV (λw'=>w'.v fb 0 (υ F.1)/\w'.v fb 1 (υ F.2)/\w'.v bl 1 (σ gf (I L.cL) capf)/\w'.v gf (j*2) (υ x.1)/\w'.v gf (j*2+1) (υ x.2)) 9 zr ⟨y0,y1,yl1,yf0,yf1⟩ (λHc=> ?_);refine zzAC ?_;refine bY 8 (λK hK=> ?_);go_simp;go_at_call 65;refine (zf3 F x _ R9.o.1 R9.o.2).mono ?_;rintro e az ⟨rfl,QD⟩;simp only[qV];have yy:=(zAi ((aG QD fb.a lfb).trans y0) (zAi ((aG QD (fb.p 1) lfb).trans y1) (zAi ((aG QD (bl.p 1) lbl).trans yl1) (zAi ((aG QD (gf.p (j*2)) lgf).trans yf0) ((aG QD (gf.p (j*2+1)) lgf).trans yf1)))));refine hK.out _ _ (λ_=>yy) ?_;clear hK K Hc
         refine zzAF ?_;obtain⟨z0,z1,_,_,_⟩:=yy;have PX:kS az fb F:=(QD.block fb lfb).trans yr.o.2;have zf0:=zF 0 PX;have zf1:=zF 1 PX;have zl:=aA PX;refine bY 9 (λK hK=> ?_);go_simp;refine hK.out _ _ (λh=>absurd rfl h) ?_;clear hK K;refine zzAF ?_;refine dB zr ?_;refine NoPanic.normal ?_
         have OF:=(yr.o.1.later (⟨QD.os,QD.tape,QD.output,QD.size,QD.block⟩:w'.u az)).other (w':=ς (ς az fb.a (υ ((F.or x).1:Nat))) (fb.p 1) (υ ((F.or x).2:Nat))) fb (by rw[HTG.o];decide) (jN _ _ _ _ _ _);have hsX:kS (ς (ς az fb.a (υ ((F.or x).1:Nat))) (fb.p 1) (υ ((F.or x).2:Nat))) fb (F.or x):=aB _ _ _ _ _ _ _ (aB _ _ _ _ _ _ _ PX)
         generalize (ς az fb.a (υ ((F.or x).1:Nat))).setCell (fb.p 1) (υ ((F.or x).2:Nat))=wX at OF hsX ⊢;have MH:=(OF.below.block bl (aA Kk.o.1)).trans Kk.o.1;have ri:=aU Kk.o.2.1 (λg hg=>OF.below.block g (Kk.o.2.1.lt g hg).2);have:=zq 2 MH;have Tb:=HRJ.o;have:=aJ ri j (ι rj) (by rw[List.getElem?_map,Tb];rfl);have ut:=Θ OF hsX
         have OX:=or_ok R9.o.1 R9.o.2;have si:=zh OX;clear OF hsX MH ri Tb z0 z1 zf0 zf1 zl PX QD y0 y1 lfb lbl lgf yf0 yf1 yl1 yl2 OX;by_cases h1:0<=rj
         . by_cases h2:r<0
           . go_wp2_with fail
             go_roundw
             case rel=>
              have hn:=HN.o;rw[zP ⟨h1,.inl h2⟩] at hn;exact zzAo
             case measure=>exact zY
           by_cases h3:rj<r
           . go_wp2_with fail
             go_roundw
             case rel=>
              have hn:=HN.o;rw[zP ⟨h1,.inr h3⟩] at hn;exact zzAo
             case measure=>exact zY
           go_wp2_with fail
           go_roundw
           case rel=>
            have hn:=HN.o;rw[zN (λe=>zo)] at hn;exact zzAo
           case measure=>exact zY
         go_wp2_with fail
         go_roundw
         case rel=>
          have hn:=HN.o;rw[zN (λe=>zo)] at hn;exact zzAo
         case measure=>exact zY
      have RU:=zn j (I L.cL)
      have EH:j=I L.cL:=zo
      subst EH;clear hj YR Ya ig;obtain⟨F,hF⟩:=zE ((bU L s (I L.cL)).1);obtain⟨r,hr⟩:=zE ((bU L s (I L.cL)).2);rw[<-hr] at js ⊢;have Ha:=Ye.o;rw[<-hF,<-hr] at Ha;obtain⟨V2,Qg⟩:∃ V2,kG F ((bG L.cL).map (bP L.cL)) sE []=V2:=⟨_,rfl⟩;have Nr:rowV L ((bG L.cL).map (bP L.cL)) f' (rule'++[r]) YN V2=V:=by
       rw[<-Ha,<-Qg];rfl
      have QL:=zh Nr;have AP:=zh (by rw[hF];exact uw.o:F.Ok);have hfF:kS wr fb F:=by rw[hF];exact Af.o.2
      have Tm:=Θ Af.o.1 hfF;have VW:=zh Qg;clear hF hr Ha Nr hfF Qg;have t0:=zq 0 Tm.o.1.ht;have GZ:=zcs (I (bG L.cL)) zo wr;go_upto_region 27 with fail
      have PJ:R3St w (I (bG L.cL)) (bG L.cL) ((bG L.cL).map (bP L.cL)) tb bc cc mb w5.t rc rule' YN vr vg yt F fb wr.t V2 0 (dI tagA wr.t 7) sE [] (σ gs (I sE) cs) (κ wr (Ω (dP (ψ (I (bG L.cL)) 0)).toArray 3)):=by
       have lfb:=aA Tm.o.2;exact⟨Tm.o.1.mark (Ξ wr _) _ 7 bR zd,by simpa using (zc2 _ wr.t (I (bG L.cL)) zo (bA _ _ _ rfl)),mC _ _ _,(bS _ _ _ lfb).trans Tm.o.2,(dJ zo).trans HTG.o,rfl,VW.o,HO.o.ok,HO.o.nd,qo⟩
      generalize wr.alloc (Ω (dP (ψ (I (bG L.cL)) 0)).toArray 3)=wB at PJ ⊢;obtain⟨rb,Xm⟩:=zE (wr.heap.size);rw[<-Xm] at PJ ⊢;generalize dI tagA rb 7=tagB at PJ;have FJ:=zh PJ;have t0:=zq 0 PJ.m.ht;clear PJ Xm GZ;go_wp2_with fail;clear t0
      go_loopw [9,115] (λs9 s115 wr3=>∃ (k gs' cs':Nat) (qj:Nat->Nat) (Q1:List aZ) (Kg:List Int),s9=σ gs' (I Q1) cs'/\s115=ι k/\k<=I (bG L.cL)/\R3St w (I (bG L.cL)) (bG L.cL) ((bG L.cL).map (bP L.cL)) tb bc cc mb w5.t rc rule' YN vr vg yt F fb rb V2 k qj Q1 Kg s9 wr3) (λ_ s115 _=>I (bG L.cL)-(ϑ s115).toNat)
      case atStart=>exact⟨0,_,_,_,_,_,rfl,rfl,zo,FJ.o⟩
      case round=>
       obtain⟨k,gs',cs',qj,Q1,Kg,rfl,rfl,hk,PL⟩:=hrel;have PC:=zh PL;by_cases XR:k<I (bG L.cL)
       . have hzk:(k:Int)<(I (bG L.cL):Int):=zo
         have:=mF k;obtain⟨m,hm⟩:∃ m,((bG L.cL).map (bP L.cL))[k]?=some m:=⟨_,zLe (by simpa using XR)⟩;have G3:m.Ok:=by
          rw[List.getElem?_map] at hm;cases hq:(bG L.cL)[k]? with
          | none=>rw[hq] at hm;cases hm
          | some c=>rw[hq] at hm;cases hm;exact zaf c L.cL 0 (0,0) ⟨zd,zd⟩ zo
         have SE:=yI _ k m hm;rw[Nat.mul_comm 2 k] at SE;have m0:=aJ PL.m.fMs _ _ SE.1;have m1:=aJ PL.m.fMs _ _ SE.2;obtain⟨y0,y1⟩:=PL.fs.cells;have lfb:=aA PL.fs;have Y6:=(PL.m.fMs.lt mb rfl).2;have V3:=bits_and_u64_nat F.1 m.1 AP.o.1 G3.1;have Hk:=bits_and_u64_nat F.2 m.2 AP.o.2 G3.2;have Yh:((bG L.cL).map (bP L.cL)).drop k=m::((bG L.cL).map (bP L.cL)).drop (k+1):=by
          obtain⟨h1,h2⟩:=List.getElem?_eq_some_iff.1 hm;rw[List.drop_eq_getElem_cons h1,h2]
         have Ha:=PL.rest;rw[Yh,kG] at Ha;obtain⟨to',jj⟩:∃ t,t=F.and m:=⟨_,rfl⟩;rw[<-jj] at Ha;have Xo:(F.1&&& m.1)=to'.1:=by rw[jj];rfl
         have Rn:(F.2&&& m.2)=to'.2:=by rw[jj];rfl
         rw[Xo] at V3;rw[Rn] at Hk;have NH:to'.Ok:=by
          rw[jj];exact⟨Nat.lt_of_le_of_lt Nat.and_le_left AP.o.1,Nat.lt_of_le_of_lt Nat.and_le_left AP.o.2⟩
         have vq:=zh Ha;have VG:=zh NH;have hSO:∀ w',wr.u w'->wr.u w'/\w'.v fb 0 (υ F.1)/\w'.v fb 1 (υ F.2)/\w'.v mb (k*2) (υ m.1)/\w'.v mb (k*2+1) (υ m.2):=λw' hb=>
          ⟨hb,(aG hb fb.a lfb).trans y0,(aG hb (fb.p 1) lfb).trans y1,(aG hb (mb.p (k*2)) Y6).trans m0,(aG hb (mb.p (k*2+1)) Y6).trans m1⟩
         have YZ:=zh hSO;clear hm G3 SE m0 m1 y0 y1 lfb Y6 Yh Ha jj Xo Rn NH hSO PL;go_upto_region 30 with fail
         go_region_held3 (λw'=>wr.u w'/\w'.v fb 0 (υ F.1)/\w'.v fb 1 (υ F.2)/\w'.v mb (k*2) (υ m.1)/\w'.v mb (k*2+1) (υ m.2)) (first|exact YZ.o _ iM.drew|exact YZ.o _ (iM.drew.alloc zs _)|exact YZ.o _ ((iM.drew.alloc zs _).setCell zs _)|exact YZ.o _ (((iM.drew.alloc zs _).setCell zs _).setCell zs _)) (fail)
         have An:=PC.o.later (w':=(κ wr (Ω #[υ to'.1,υ to'.2] 176)).drew) ((Ξ wr _).drew);have IR:kS (κ wr (Ω #[υ to'.1,υ to'.2] 176)).drew wr.t to':=bA _ _ _ rfl;generalize (κ wr (Ω #[υ to'.1,υ to'.2] 176)).drew=wT at An IR ⊢;obtain⟨ta,l6⟩:=zE (wr.heap.size);rw[<-l6] at IR ⊢;have CG:=Θ An IR;obtain⟨d0,d1⟩:=IR.cells;have lta:=aA IR
         have Av:=map_look An.m.fMap An.ok An.nd to' VG.o;unfold qV at Av;have jp:∀ w',wT.u w'->(∃ u,w'.v rb k u)/\w'.q rb k/\rb<w'.t:=λw' hb=>by
          have h:=(CG.o.1.later hb).rr;have hl:I (dP (Kg++ψ (I (bG L.cL)-k) 0))=I (bG L.cL):=by
           have:=CG.o.1.lk;simp[dP];omega
          exact zzDb
         have N5:=zh jp;have htm:ta≠w5.t:=by
          obtain⟨es,clock,YR,_,_⟩:=PC.o.m.fMap;have:=aA YR;omega
         have HTM:=zh htm;clear An IR l6 jp V3 Hk htm;by_cases JH:to'=(0,0)
         . have Ha:=vq.o
           rw[zP JH] at Ha;have Ui:=zh Ha;have HE:=zh (decide_eq_true JH);generalize ((Q1.findIdx? (λx=>decide (x=to'))).getD 0)=ix at Av;generalize ((Q1.findIdx? (λx=>decide (x=to'))).isSome)=bx at Av;clear JH Ha;go_upto_region 33 with (go_at_call 70;refine (rM to' _).mono ?_;rintro e w6 ⟨rfl,QT⟩;rw[HE.o];have Qs:=zh QT;clear QT)
           obtain⟨⟨u,zu⟩,zf,zl⟩:=N5.o _ Qs.o;clear Av d0 d1 lta;go_wp2_with fail;go_roundw
           case rel=>exact⟨k+1,gs',cs',qj,Q1,Kg++[-1],rfl,by go_num,zo,(CG.o.1.later Qs.o).store XR (-1) Ui.o⟩
           case measure=>exact zY
         have Ha:=vq.o
         rw[zN JH] at Ha;have HE:=zh (decide_eq_false JH);clear JH;cases Cf:Q1.findIdx? (λx=>decide (x=to')) with
         | some jx=>
          rw[Cf] at Ha Av;simp only[Option.getD_some,Option.isSome_some] at Av;have Ui:=zh Ha;clear Cf Ha;go_upto_region 34 with (go_at_call 70;refine (rM to' _).mono ?_;rintro e w6 ⟨rfl,QT⟩;rw[HE.o];have Qs:=zh QT;clear QT)
          obtain⟨⟨u,zu⟩,zf,zl⟩:=N5.o _ Qs.o;clear Av d0 d1 lta;go_wp2_with fail;go_roundw
          case rel=>exact⟨k+1,gs',cs',qj,Q1,Kg++[(jx:Int)],rfl,by go_num,zo,(CG.o.1.later Qs.o).store XR jx Ui.o⟩
          case measure=>exact zY
         | none=>
          rw[Cf] at Ha Av;simp only[Option.getD_none,Option.isSome_none] at Av;by_cases KC:200<I Q1
          . rw[zP KC] at Ha
            subst Ha;have Zw:=QL.o;rw[rowV] at Zw;have HVN:=zh Zw;have RR:¬ (I Q1:Int)<=200:=zo
            clear Cf KC Zw;go_wp2_with (first|(go_at_call 70;refine (rM to' _).mono ?_;rintro e w6 ⟨rfl,QT⟩;rw[HE.o];have Qs:=zh QT;clear QT));refine bodyPost_ret (v:=ϕ #[Φ none,φ false]) (by simp[results,results30,go_sem]) rfl ?_;exact .inl ⟨HVN.o.symm,rfl,(CG.o.1.later Qs.o).m.below⟩
          rw[zN KC] at Ha;have Ui:=zh Ha;have Jt:=zh Cf;have RR:(I Q1:Int)<=200:=zo
          clear Cf Ha KC;go_upto_region 34 with (go_at_call 70;refine (rM to' _).mono ?_;rintro e w6 ⟨rfl,QT⟩;rw[HE.o];have Qs:=zh QT;clear QT)
          have Pa:=CG.o.1.later Qs.o;obtain⟨w8,OL,OJ,VL⟩:=map_put Pa.m.fMap Pa.ok to' VG.o Jt.o;unfold qV at OL;have DN:kS w6 ta to':=(Qs.o.block ta lta).trans CG.o.2;have Rj:kS w8 ta to':=(VL.block ta (aA DN) (λe=>HTM.o (by cases e;rfl))).trans DN;obtain⟨e0,e1⟩:=DN.cells;obtain⟨f0,f1⟩:=Rj.cells;have Bx:gs'≠w5.t:=λe=>by have h1:=Pa.m.t3 gs' rfl;rw[e,Pa.m.t2] at h1;cases h1
          have Vg:w8.r 176 2 (σ gs' (I Q1) cs') (I Q1) (setCells Q1):=aU Pa.m.fSets (λg hg=>VL.block g (Pa.m.fSets.lt g hg).2 (λe=>by cases hg;exact Bx (by cases e;rfl)));have LT:=zh Vg;have x6:I Q1+1<=1000000000:=zo
          have Sz:∀ w9,(κ w8 (Ω #[υ to'.1,υ to'.2] 176)).g w9 gs'->(∃ u,w9.v rb k u)/\w9.q rb k/\rb<w9.t:=λw9 SC=>by
           have lr6:=(Pa.rr.lt rb rfl).2;have:=VL.size;have tg3:=Pa.m.t3 gs' rfl;have XN:w9.e w6 rb:=(SC.block rb zx (λe=>by cases e;rw[Pa.tr] at tg3;cases tg3)).trans ((bS _ _ _ zo).trans (VL.block rb lr6 (λe=>by
            have h2:=Pa.m.t2;have h3:=Pa.tr;injection e with e
            rw[<-e,h3] at h2;cases h2)))
           have h:w9.r 3 1 (σ rb (I (bG L.cL)) (I (bG L.cL))) (I (bG L.cL)) (dP (Kg++ψ (I (bG L.cL)-k) 0)):=aU Pa.rr (λg hg=>by cases hg;exact XN);have hl:I (dP (Kg++ψ (I (bG L.cL)-k) 0))=I (bG L.cL):=by
            have:=Pa.lk;simp[dP];omega
           exact zzDb
          have Rc:=zh Sz;have H6:=Λ Pa OJ VL;clear Sz Vg Bx DN Rj Pa OJ VL Av d0 d1 lta;go_wp2_with (at_builtin;refine dM rfl elemSet rfl (by exact LT.o.alloc _) [υ to'.1,υ to'.2] x6 ?_;intro v9 w9 Qc YB Yz;obtain⟨g9,YG,rfl⟩:=cH Qc;obtain⟨⟨u,zu⟩,zf,zl⟩:=Rc.o w9 YB;have H9:=Λ Qc YB Yz;clear Qc YB Yz);go_roundw
          case rel=>exact⟨k+1,g9,YG,_,Q1++[to'],Kg++[(I Q1:Int)],zs,by go_num,zo,H6.o.1.put to' VG.o Jt.o zo H6.o.2.2 H6.o.2.1 _ _ H9.o.1 H9.o.2.1 H9.o.2.2 _ XR Ui.o⟩
          case measure=>exact zY
       have hzk:¬ (k:Int)<(I (bG L.cL):Int):=zo
       have t7:k=I (bG L.cL):=zo
       subst t7;have Ha:=PL.rest;rw[List.drop_of_length_le zs,kG] at Ha;subst Ha;have VA:=zh (show cO L ((bG L.cL).map (bP L.cL)) f' Q1 (rule'++[r]) (YN++[Kg])=V from QL.o);have Hg:=PL.m.fI rb PL.tr;have pn:wr.r 3 1 (σ rb (I (bG L.cL)) (I (bG L.cL))) (I (bG L.cL)) (dP Kg):=by
        have h:=PL.rr;rw[Nat.sub_self,List.replicate_zero,List.append_nil] at h;exact h
       have Cy:dI qj rb 6 rb=6:=mC _ _ _;generalize dI qj rb 6=ya at Hg Cy;have Ad:=Ψ Hg pn Cy (zAi PL.lk (zAi PL.ok (zAi PL.nd PL.le)));have t2:=zq 2 Hg.ht;have Js:=aA Hg.ht;have EF:I YN+1<=1000000000:=by have:=HO.o.lg;omega
       have Cs:I rule'+1<=1000000000:=by have:=HO.o.lr;omega
       have AH:∀ w9 ob,(κ wr ob).grownBy w9 (β vg)->w9.q tb 2/\(∃ u,w9.v tb 2 u)/\tb<w9.t:=λw9 ob hg=>by
        obtain⟨k1,k2,k3⟩:=mJ (off:=2) Ad.o.1.ht (λe=>by have h1:=Ad.o.1.t5 tb e;rw[Ad.o.1.t1] at h1;cases h1) hg;exact⟨k2,⟨_,k1⟩,k3⟩
       have FO:=zh AH;clear PL Hg pn Cy AH;go_upto_region 43 with (at_builtin;refine dM rfl zd9 rfl (by exact Ad.o.1.fGoes.alloc _) [σ rb (I (bG L.cL)) (I (bG L.cL))] EF ?_;intro v9 w9 Qc YB Yz;obtain⟨g9,YG,rfl⟩:=cH Qc;obtain⟨zf,⟨u,zu⟩,zl⟩:=FO.o w9 _ YB;have H9:=Λ Qc YB Yz;clear Qc YB Yz)
       have Cn:=Ad.o.1.appGoes Kg rb _ _ Ad.o.2.2.2.1 Ad.o.2.1 Ad.o.2.2.1 _ _ H9.o.1 H9.o.2.1 H9.o.2.2;generalize dI ya (wr.heap.size+1) 5=Qz at Cn;generalize w9.setCell (tb.p 2) (σ g9 (I YN+1) YG)=Ki at Cn ⊢;have ur:=zh Cn;have t1:=zq 1 Cn.ht;have Js:=aA Cn.ht
       have ro:∀ w11 ob,(Ki.alloc ob).grownBy w11 (β vr)->w11.q tb 1/\(∃ u,w11.v tb 1 u)/\tb<w11.t:=λw11 ob hg=>by
        obtain⟨k1,k2,k3⟩:=mJ (off:=1) ur.o.ht (λe=>by have h1:=ur.o.t4 tb e;rw[ur.o.t1] at h1;cases h1) hg;exact⟨k2,⟨_,k1⟩,k3⟩
       have WA:=zh ro;clear Cn ro zf zu zl t2;go_upto_region 14 with (at_builtin;refine dM rfl oY rfl (by exact ur.o.fRule.alloc _) [ι r] Cs ?_;intro v11 w11 T9 UZ Ew;obtain⟨g11,cap11,rfl⟩:=cH T9;obtain⟨zf,⟨u,zu⟩,zl⟩:=WA.o w11 _ UZ;have we:=Λ T9 UZ Ew;clear T9 UZ Ew)
       have Dv:=ur.o.appRule r _ _ we.o.1 we.o.2.1 we.o.2.2;generalize dI Qz (Ki.heap.size+1) 4=XK at Dv;generalize w11.setCell (tb.p 1) (σ g11 (I rule'+1) cap11)=az at Dv ⊢;have Wh:=zh Dv;clear Dv zf zu zl t1;have Xp:=mF i;go_wp2_with fail;go_roundg f'
       case rel=>
        refine⟨i+1,gs',cs',f',XK,Q1,rule'++[r],YN++[Kg],_,_,_,rfl,by go_num,rfl,Wh.o,VA.o,by simp[HO.o.lr],by simp[HO.o.lg],Ad.o.2.2.2.2.1,Ad.o.2.2.2.2.2.1,Ad.o.2.2.2.2.2.2,by have:=HO.o.fu;omega⟩
       case measure=>have:=HF9.o;omega
   have hz:=zn i (I sE)
   have Zx:V=some (rule',YN):=by
    have Ha:=HO.o.rest;cases f9 with
    | zero=>rw[cO,zN zzDf] at Ha;exact Ha.symm
    | succ k=>rw[cO,zN zzDf] at Ha;exact Ha.symm
   obtain⟨R,f,Hx,b2,hT,qh,Hg,xh,hTe⟩:=HM.o.2 rule' YN Zx;have hm:=HO.o.m;generalize AE:rule'=rU at*;generalize ou:YN=gO at*;clear AE ou;have su:=Θ hTe Zx;have yr:=Θ qh Hg;clear hTe qh Hg Zx;have ow:0<I gO:=hT.some';have Qh:I rU=I gO:=hT.rules;obtain⟨gr',cr',rfl⟩:∃ g cap,vr=σ g (I rU) cap:=by
    rcases aY hm.fRule with⟨_,h0⟩|⟨g,cap,e,_⟩
    . omega
    exact⟨g,cap,e⟩
   obtain⟨gg',cg',rfl⟩:∃ g cap,vg=σ g (I gO) cap:=by
    rcases aY hm.fGoes with⟨_,h0⟩|⟨g,cap,e,_⟩
    . omega
    exact⟨g,cap,e⟩
   have Wi:=zh hm;have ND:=hm.tabAt Lq.o ym xh 0 wr (λ_ _=>rfl) hm.ht;have xu:=bound_any ⟨bG L.cL,rU,gO,0⟩ R f hT Hx b2 yr.o.1 yr.o.2 wr.t wr tb _ _ _ _ _ _ ND bR;obtain⟨bnd,Da⟩:=zE ((if b2.round then -1 else Hx+1));rw[<-Da] at xu;have YX:=zh xu;have wv:=zh Da;clear Da;clear hm ow Qh ND xu
   go_wp2_with (first|(go_at_call 71;refine YX.o.mono ?_;rintro e w13 ⟨rfl,Ge⟩;have Aq:=(Ge.block tb (aA Wi.o.ht)).trans Wi.o.ht;have k3:=zq 3 Aq;have:=zF 3 Aq;have H13:=Θ Ge Aq;clear Ge Aq));have OE:=Wi.o.later H13.o.1;refine bodyPost_ret (v:=ϕ #[aF tb,φ true]) (by simp[results,results30,go_sem]) rfl ?_
   refine .inr ⟨⟨_,su.o.2⟩,tb,bc,cc,gr',cr',gg',cg',rfl,by rw[su.o.1,<-wv.o];exact OE.tabAt Lq.o ym xh _ _ (λb hb=>aD _ _ _ _ hb) (aB _ _ 3 _ _ _ _ H13.o.2),NF.1,?_⟩;have hb:=OE.below;exact⟨hb.os,hb.tape,hb.output,by simpa using hb.size,λb Qy=>(aD _ _ _ _ (λe=>by have h1:=NF.1;have:b=tb:=e;omega)).trans (hb.block b Qy)⟩
end Go.Proofs.YtmfnmkccbldfpaaGreatDoor
namespace Go.Proofs.YtmfnmkccbldfpaaGreatDoor
open Go.RowKit Go.Lib Tryz
variable {s:η} {p q q2:Nat} {n:Int}
def TrO (B pb:Nat) (s:η) (x:Pr) (c1 c2 d:Nat) (res:Except mP (aL×Nat)) (lv:Value) (w:ω) (e:Ending) (w':ω):Prop:=
 ∃ (k:Nat) (y:Pr) (yx:Value),e=ρ (ι k)/\gD B pb s y yx w'/\PK pb lv yx w w'/\x.ns<+:y.ns/\k<I y.ns/\x.aQ<=y.aQ/\
  match res with
  | .ok (T,q)=>y.e=x.e/\y.wh=x.wh/\y.aQ=q/\cX y.ns k T/\I y.ns+20*x.aQ+d<=I x.ns+20*y.aQ+c1
  | .error er=>y.e=er.1/\y.wh=er.2/\er.1≠0/\I y.ns+20*x.aQ<=I x.ns+20*y.aQ+c2
def CntR (s:η) (p:Nat) (v:Int) (q:Nat):Prop:=(v= -1/\∀ k,∃ er,eV s p k=.error er/\er=(4,k))\/∃ n:Nat,v=(n:Int)/\n<100/\∀ k,eV s p k=.ok (n,q)
def zeX (s:η) (q:Nat) (m n:Int) (q2:Nat):Prop:=
 (uZ s q 44=false/\n=m/\q2=q)\/(uZ s q 44=true/\¬ (q+1<s.size/\bL s (q+1)≠125)/\n= -2/\q2=q+1)\/(uZ s q 44=true/\(q+1<s.size/\bL s (q+1)≠125)/\CntR s (q+1) n q2)
def yS (s:η) (m n:Int) (q2:Nat) (t:aL):Prop:=m<0\/n= -1\/uZ s q2 125=false\/8<m\/8<n\/(0<=n/\n<m)\/cE t=0
theorem CntR.low {v:Int} (h:CntR s p v q): -1<=v/\v<100:=by
 rcases h with⟨e,_⟩|⟨n,e,h,_⟩<;>omega
theorem zeX.low {m:Int} (h:zeX s q m n q2) (hm: -1<=m/\m<100): -2<=n/\n<100:=by
 rcases h with⟨_,e,_⟩|⟨_,_,e,_⟩|⟨_,_,h⟩
 . omega
 . omega
 have:=h.low;omega
def hiOf (n:Int):Int:=if n= -2 then -1 else n
theorem comma_hi {m:Nat} (h:zeX s q m n q2):
 (if uZ s q 44 then (if decide (q+1<s.size)&& !decide (bL s (q+1)=125) then (eV s (q+1) p).map (λx=>((x.1:Int),x.2)) else .ok (-1,q+1)) else .ok ((m:Int),q):Except mP (Int×Nat))=if n= -1 then .error (4,p) else .ok (hiOf n,q2):=by
 rcases h with⟨h1,rfl,rfl⟩|⟨h1,h2,rfl,rfl⟩|⟨h1,h2,h3⟩
 . grind [hiOf]
 . have e:(decide (q+1<s.size)&& !decide (bL s (q+1)=125))=false:=by
    simp only[Bool.and_eq_false_iff,decide_eq_false_iff_not,Bool.not_eq_false',decide_eq_true_eq];omega
   rw[h1,zP rfl,e,zN zd,zN zd];rfl
 have e:(decide (q+1<s.size)&& !decide (bL s (q+1)=125))=true:=by
  simp only[Bool.and_eq_true,decide_eq_true_eq,Bool.not_eq_true',decide_eq_false_iff_not];exact h2
 rw[h1,zP rfl,e,zP rfl]
 rcases h3 with⟨rfl,h⟩|⟨k,rfl,_,h⟩
 . obtain⟨er,h,rfl⟩:=h p
   rw[h,zP rfl];rfl
 rw[h p,zN zo,hiOf,zN zo]
 rfl
theorem times_eq {m:Int} {t:aL} (h1:CntR s (p+1) m q) (h2:zeX s q m n q2):
 (yS s m n q2 t->nX s p t=.error (4,p))/\(¬ yS s m n q2 t->nX s p t=.ok (copyT t m.toNat n,q2+1)):=by
 have:=h2.low h1.low
 rcases h1 with⟨rfl,h⟩|⟨k,rfl,hk,h⟩
 . obtain⟨er,h,rfl⟩:=h p
   refine⟨λ_=> ?_,λhb=>absurd (.inl zd) hb⟩;unfold nX;rw[h]
 unfold nX
 rw[h p];dsimp only;rw[comma_hi (p:=p) h2];by_cases hn:n= -1
 . refine⟨λ_=> ?_,λhb=>absurd (.inr (.inl hn)) hb⟩
   grind
 rw[zN hn]
 dsimp only;have:∀ j:Int,0<=j->((j<=hiOf n)↔j<=n):=λj hj=>by unfold hiOf;omega
 have e1:(8:Int)<hiOf n↔8<n:=by unfold hiOf;split<;>omega
 have e2:(0<=hiOf n/\hiOf n<(k:Int))↔(0<=n/\n<(k:Int)):=by unfold hiOf;split<;>omega
 have:hiOf n<0↔n<0:=by unfold hiOf;split<;>omega
 have:0<=n->hiOf n=n:=λh=>by grind
 constructor
 . intro hb
   rw[zP];rw[e1,e2]
   rcases hb with hb|hb|hb|hb|hb|hb|hb
   all_goals grind
 intro hb
 rw[zN]
 . grind [copyT]
 rw[e1,e2]
 intro hc;apply hb
 rcases hc with hc|hc|hc|hc|hc
 . exact .inr (.inr (.inl hc))
 . exact .inr (.inr (.inr (.inl zo)))
 . exact .inr (.inr (.inr (.inr (.inl hc))))
 . exact .inr (.inr (.inr (.inr (.inr (.inl hc)))))
 exact .inr (.inr (.inr (.inr (.inr (.inr hc)))))
