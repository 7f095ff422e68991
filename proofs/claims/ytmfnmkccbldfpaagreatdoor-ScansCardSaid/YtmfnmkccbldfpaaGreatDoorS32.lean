/- Part of a proof. No condition. -/
import Derived.Test.YtmfnmkccbldfpaaGreatDoorS31
set_option linter.unusedVariables false
set_option linter.unusedSimpArgs false
namespace Go.Proofs.YtmfnmkccbldfpaaGreatDoor
theorem zzDI {p:Prop} (h:p:=by grind [Mk.links_len,zgj]):p:=h
variable {n:Nat} {b:ο}
structure lF where
 emp:Bool
 fst:ο
 lst:ο
structure Mk where
 cL:List θ
 last:List Int
 fL:List ο
 on:Bool
def dH {α:Type} [DecidableEq α] (a b:List α):List α:=b.foldl (λo x=>if x∈o then o else o++[x]) a
def eZ (a b:ο) (F:List ο):List ο:=a.foldl (λF i=>F.modify i (dH · b)) F
def iU:lF:=⟨true,[],[]⟩
def catP (a b:lF):lF:=⟨a.emp&&b.emp,if a.emp=true then dH a.fst b.fst else a.fst,if b.emp=true then dH a.lst b.lst else b.lst⟩
def zcc (a b:lF):lF:=⟨a.emp||b.emp,dH a.fst b.fst,dH a.lst b.lst⟩
def Mk.links (M:Mk) (a b:ο):Mk:={M with fL:=eZ a b M.fL}
mutual
def fP:aL->Mk->lF×Mk
 | .cL c,M=>
  if M.on=true then (iU,M)
  else if 64<I M.fL then (iU,{M with on:=true})
  else (⟨false,[I M.fL],[I M.fL]⟩,⟨M.cL++[c],M.last++[-1],M.fL++[[]],M.on⟩)
 | .row l,M=>mkR l iU M
 | .either a b,M=>
  if M.on=true then (iU,M)
  else (zcc (fP a M).1 (fP b (fP a M).2).1,(fP b (fP a M).2).2)
 | .rep t m once,M=>
  if M.on=true then (iU,M)
  else (⟨(fP t M).1.emp||decide (m=0),(fP t M).1.fst,(fP t M).1.lst⟩,if once=true then (fP t M).2 else (fP t M).2.links (fP t M).1.lst (fP t M).1.fst)
def mkR:List aL->lF->Mk->lF×Mk
 | [],p,M=>(p,M)
 | t::l,p,M=>mkR l (catP p (fP t M).1) ((fP t M).2.links p.lst (fP t M).1.fst)
end
theorem mkR_snoc (l:List aL) (t:aL):∀ (p:lF) (M:Mk),mkR (l++[t]) p M=(catP (mkR l p M).1 (fP t (mkR l p M).2).1,(fP t (mkR l p M).2).2.links (mkR l p M).1.lst (fP t (mkR l p M).2).1.fst):=by
 induction l with
 | nil=>grind [mkR]
 | cons u l ih=>grind [mkR]
mutual
theorem xY:∀ (t:aL) (M:Mk),M.on=true->fP t M=(iU,M)
 | .cL c,M,h=>by rw[fP,zP h]
 | .row l,M,h=>by rw[fP,mkR_on l M h]
 | .either a b,M,h=>by rw[fP,zP h]
 | .rep t m o,M,h=>by rw[fP,zP h]
theorem mkR_on:∀ (l:List aL) (M:Mk),M.on=true->mkR l iU M=(iU,M)
 | [],M,h=>by rw[mkR]
 | t::l,M,h=>by
  rw[mkR,xY t M h];exact mkR_on l M h
end
theorem qP {α:Type} [DecidableEq α] {x:α}:∀ {b a:List α},x∈dH a b↔x∈a\/x∈b
 | [],a=>by simp[dH]
 | y::b,a=>by
  show x∈dH (if y∈a then a else a++[y]) b↔_;rw[qP,List.mem_cons]
  grind
theorem kL {α:Type} [DecidableEq α]:∀ {b a:List α},a.Nodup->(dH a b).Nodup
 | [],a,h=>h
 | y::b,a,h=>by
  show (dH (if y∈a then a else a++[y]) b).Nodup;apply kL
  grind
theorem zhz (f:Nat->Int) (hf:∀ x y,f x=f y->x=y):∀ (b a:ο),(dH a b).map f=dH (a.map f) (b.map f)
 | [],a=>rfl
 | y::b,a=>by
  show (dH (if y∈a then a else a++[y]) b).map f=dH (if f y∈a.map f then a.map f else a.map f++[f y]) (b.map f);rw[zhz f hf b]
  grind
theorem zel {α:Type} [DecidableEq α]:∀ (b a:List α),I (dH a b)<=I a+I b
 | [],a=>bR
 | y::b,a=>by
  show I (dH (if y∈a then a else a++[y]) b)<=_;refine zT (zel b _) ?_
  grind
theorem zfG:∀ (n:Nat) (l:ο),l.Nodup->(∀ x∈l,x<n)->I l<=n
 | 0,l,h,hl=>by cases l with
  | nil=>simp
  | cons a l=>exact absurd (hl a zs) zo
 | n+1,l,h,hl=>by
  have:=zfG n (l.erase n) (h.erase n) (λx hx=>by
   grind)
  grind
structure eT (p:lF) (n:Nat):Prop where
 f:∀ x∈p.fst,x<n
 l:∀ x∈p.lst,x<n
 fn:p.fst.Nodup
 ln:p.lst.Nodup
structure zeY (F:List ο):Prop where
 lt:∀ r∈F,∀ x∈r,x<I F
 nd:∀ r∈F,r.Nodup
structure iJ (M:Mk):Prop where
 le:I M.fL<=65
 c:I M.cL=I M.fL
 a:I M.last=I M.fL
 f:zeY M.fL
theorem eT.mono {p:lF} {m:Nat} (h:eT p n) (hm:n<=m):eT p m:=⟨λx hx=>zLd (h.f x hx) hm,λx hx=>zLd (h.l x hx) hm,h.fn,h.ln⟩
theorem oF (n:Nat):eT iU n:=⟨λx hx=>by simp[iU] at hx,λx hx=>by simp[iU] at hx,List.nodup_nil,List.nodup_nil⟩
theorem zcn {a:ο} (ha:∀ x∈a,x<n) (hb:∀ x∈b,x<n):∀ x∈dH a b,x<n:=λx hx=>by
 grind [qP]
theorem zgj {p q:lF} (hp:eT p n) (hq:eT q n):eT (catP p q) n:=by
 unfold catP;refine⟨?_,?_,?_,?_⟩
 . show ∀ x∈(if p.emp=true then dH p.fst q.fst else p.fst),x<n
   split
   . exact zcn hp.f hq.f
   exact hp.f
 . show ∀ x∈(if q.emp=true then dH p.lst q.lst else q.lst),x<n
   split
   . exact zcn hp.l hq.l
   exact hq.l
 . show (if p.emp=true then dH p.fst q.fst else p.fst).Nodup
   split
   . exact kL hp.fn
   exact hp.fn
 show (if q.emp=true then dH p.lst q.lst else q.lst).Nodup
 split
 . exact kL hp.ln
 exact hq.ln
theorem ziu {p q:lF} (hp:eT p n) (hq:eT q n):eT (zcc p q) n:=
 ⟨zcn hp.f hq.f,zcn hp.l hq.l,kL hp.fn,kL hp.ln⟩
theorem mem_mod {α:Type} {f:α->α} {l:List α} {i:Nat} {x:α} (h:x∈l.modify i f):x∈l\/∃ y∈l,x=f y:=by
 grind [List.mem_iff_getElem?]
theorem nO:∀ (a b:ο) (F:List ο),I (eZ a b F)=I F
 | [],b,F=>rfl
 | i::a,b,F=>by
  show I (eZ a b (F.modify i (dH · b)))=_;rw[nO,List.length_modify]
theorem zaQ :∀ (a:ο) (F:List ο),zeY F->(∀ x∈b,x<I F)->zeY (eZ a b F)
 | [],F,h,_=>h
 | i::a,F,h,hb=>by
  show zeY (eZ a b (F.modify i (dH · b)));apply zaQ
  . refine⟨λr hr=> ?_,λr hr=> ?_⟩
    . rw[List.length_modify]
      rcases mem_mod hr with h1|⟨y,hy,rfl⟩
      . exact h.lt r h1
      exact zcn (h.lt y hy) hb
    rcases mem_mod hr with h1|⟨y,hy,rfl⟩
    . exact h.nd r h1
    exact kL (h.nd y hy)
  grind
theorem zaR (p q:Nat):∀ (a:ο) (F:List ο),(∀ x∈a,x<I F)->(q∈χ (eZ a b F) p []↔q∈χ F p []\/(p∈a/\q∈b))
 | [],F,_=>by simp[eZ]
 | i::a,F,ha=>by
  show q∈χ (eZ a b (F.modify i (dH · b))) p []↔_;rw[zaR p q a _ (λx hx=>zg)]
  grind [qP]
theorem iJ.links {M:Mk} (h:iJ M) (a b:ο) (hb:∀ x∈b,x<I M.fL):iJ (M.links a b):=
 ⟨by show I (eZ a b M.fL)<=65;rw[nO];exact h.le,by show I M.cL=I (eZ a b M.fL);rw[nO];exact h.c,by show I M.last=I (eZ a b M.fL);rw[nO];exact h.a,zaQ a M.fL h.f hb⟩
theorem Mk.links_len (M:Mk) (a b:ο):I ((M.links a b).fL)=I M.fL:=nO a b M.fL
mutual
theorem rA:∀ (t:aL) (M:Mk),iJ M->iJ (fP t M).2/\eT (fP t M).1 (I ((fP t M).2.fL))/\I M.fL<=I ((fP t M).2.fL)
 | .cL c,M,h=>by
  rw[fP];split
  . grind [oF]
  . split
    . exact⟨⟨h.le,h.c,h.a,h.f⟩,oF _,bR⟩
    . have:I (M.fL++[[]])=I M.fL+1:=zs
      refine⟨⟨zg,by simp[h.c],by simp[h.a],?_,?_⟩,⟨?_,?_,zs,zs⟩,zs⟩
      . intro r hr x hx
        show x<I (M.fL++[[]])
        rcases List.mem_append.1 hr with h1|h1
        . have:=h.f.lt r h1 x hx;omega
        grind
      . intro r hr
        rcases List.mem_append.1 hr with h1|h1
        . exact h.f.nd r h1
        grind
      all_goals simp
 | .row l,M,h=>by rw[fP];exact mkR_ok l iU M h (oF _)
 | .either a b,M,h=>by
  rw[fP];split
  . grind [oF]
  . obtain⟨h1,h2,h3⟩:=rA a M h
    obtain⟨g1,g2,g3⟩:=rA b _ h1;exact⟨g1,ziu (h2.mono g3) g2,zT h3 g3⟩
 | .rep t m o,M,h=>by
  rw[fP];split
  . grind [oF]
  obtain⟨h1,h2,h3⟩:=rA t M h
  cases o with
  | true=>exact⟨h1,⟨h2.f,h2.l,h2.fn,h2.ln⟩,h3⟩
  | false=>
   refine⟨h1.links _ _ h2.f,?_,?_⟩
   . show eT _ (I ((Mk.links _ _ _).fL))
     rw[Mk.links_len];exact⟨h2.f,h2.l,h2.fn,h2.ln⟩
   grind [Mk.links_len]
theorem mkR_ok:∀ (l:List aL) (p:lF) (M:Mk),iJ M->eT p (I M.fL)->iJ (mkR l p M).2/\eT (mkR l p M).1 (I ((mkR l p M).2.fL))/\I M.fL<=I ((mkR l p M).2.fL)
 | [],p,M,h,hp=>by grind [mkR]
 | t::l,p,M,h,hp=>by
  rw[mkR];obtain⟨h1,h2,h3⟩:=rA t M h;have:=hp.mono h3;obtain⟨g1,g2,g3⟩:=mkR_ok l (catP p (fP t M).1) ((fP t M).2.links p.lst (fP t M).1.fst) (h1.links _ _ h2.f) zzDI
  grind [Mk.links_len]
end
structure MkSpec (M M2:Mk) (p:lF) (k:Nat) (em:Bool) (cl:List θ) (fs ls:Nat->Prop) (fo:Nat->Nat->Prop):Prop where
 on:M2.on=false
 cL:M2.cL=M.cL++cl
 last:M2.last=M.last++ψ k (-1)
 len:I M2.fL=I M.fL+k
 emp:p.emp=em
 fst:∀ x,x∈p.fst↔fs x
 lst:∀ x,x∈p.lst↔ls x
 fL:∀ x y,y∈χ M2.fL x []↔y∈χ M.fL x []\/fo x y
mutual
theorem qQ:∀ (t:aL) (M:Mk),iJ M->M.on=false->I M.fL+gJ t<=65->
 MkSpec M (fP t M).2 (fP t M).1 (gJ t) (nulT t) (kU t) (· ∈xN t (I M.fL)) (· ∈oL t (I M.fL)) (oZ t (I M.fL))
 | .cL c,M,h,h0,hl=>by
  rw[gJ] at hl;rw[fP,zN zg,zN zo];refine⟨h0,by rw[kU],rfl,by simp[gJ],by rw[nulT],λx=>by rw[xN],λx=>by rw[oL],λx y=> ?_⟩
  grind [oZ]
 | .row l,M,h,h0,hl=>by
  rw[gJ] at hl;have:=zhI l iU M h (oF _) h0 hl;rw[fP];refine⟨this.on,by rw[kU];exact this.cL,by rw[gJ];exact this.last,by rw[gJ];exact this.len,?_,λx=> ?_,λx=> ?_,λx y=> ?_⟩
  . rw[nulT,this.emp];rfl
  . rw[this.fst,xN]
    constructor
    . rintro (h|h)
      . cases h
      grind
    exact λh=>.inr ⟨rfl,h⟩
  . rw[this.lst,oL]
    constructor
    . rintro (h|h)
      . exact h
      cases h.2
    grind
  . rw[this.fL,oZ]
    constructor
    . rintro (h|h|h)
      . grind
      . grind
      cases h.1
    grind
 | .either a b,M,h,h0,hl=>by
  rw[gJ] at hl;rw[fP,zN zg];obtain⟨h1,_,_⟩:=rA a M h;have s1:=qQ a M h h0 zo;have s2:=qQ b (fP a M).2 h1 s1.on (by rw[s1.len];omega);rw[s1.len] at s2;refine⟨s2.on,by rw[s2.cL,s1.cL,kU,List.append_assoc],?_,by rw[s2.len,s1.len,gJ];omega,?_,λx=> ?_,λx=> ?_,λx y=> ?_⟩
  . rw[s2.last,s1.last,gJ,List.append_assoc,List.replicate_append_replicate]
  . show ((fP a M).1.emp||(fP b (fP a M).2).1.emp)=_
    rw[s1.emp,s2.emp,nulT]
  . show x∈dH _ _↔_
    rw[qP,s1.fst,s2.fst,xN,zMa]
  . show x∈dH _ _↔_
    rw[qP,s1.lst,s2.lst,oL,zMa]
  . rw[s2.fL,s1.fL,oZ,or_assoc]
 | .rep t m o,M,h,h0,hl=>by
  rw[gJ] at hl;rw[fP,zN zg];obtain⟨h1,h2,_⟩:=rA t M h;have s1:=qQ t M h h0 zo;have e:∀ x y,y∈χ ((if o=true then (fP t M).2 else (fP t M).2.links (fP t M).1.lst (fP t M).1.fst).fL) x []↔y∈χ ((fP t M).2.fL) x []\/(o=false/\x∈(fP t M).1.lst/\y∈(fP t M).1.fst):=λx y=>by
   cases o with
   | true=>simp
   | false=>
    show y∈χ (eZ _ _ _) x []↔_;rw[zaR x y _ _ h2.l];simp
  have e2:∀ f:Mk->List θ,True:=λ_=>trivial;refine⟨?_,?_,?_,?_,?_,λx=> ?_,λx=> ?_,λx y=> ?_⟩
  . cases o<;>exact s1.on
  . rw[kU,<-s1.cL];cases o<;>rfl
  . rw[gJ,<-s1.last];cases o<;>rfl
  . rw[gJ,<-s1.len]
    grind [Mk.links_len]
  . show ((fP t M).1.emp||decide (m=0))=_
    rw[s1.emp,nulT]
  . rw[xN];exact s1.fst x
  . rw[oL];exact s1.lst x
  rw[e,s1.fL,oZ,s1.fst,s1.lst,or_assoc]
theorem zhI:∀ (l:List aL) (p:lF) (M:Mk),iJ M->eT p (I M.fL)->M.on=false->I M.fL+jO l<=65->
 MkSpec M (mkR l p M).2 (mkR l p M).1 (jO l) (p.emp&&nulR l) (uX l) (λx=>x∈p.fst\/(p.emp=true/\x∈fstR l (I M.fL))) (λx=>x∈lstR l (I M.fL)\/(nulR l=true/\x∈p.lst)) (λx y=>folR l (I M.fL) x y\/(x∈p.lst/\y∈fstR l (I M.fL)))
 | [],p,M,h,hp,h0,hl=>by
  rw[mkR];refine⟨h0,by simp[uX],by simp[jO],zr,by simp[nulR],λx=>by simp[fstR],λx=>by simp[lstR,nulR],λx y=>by simp[folR,fstR]⟩
 | t::l,p,M,h,hp,h0,hl=>by
  rw[jO] at hl;rw[mkR];obtain⟨h1,h2,h3⟩:=rA t M h;have s1:=qQ t M h h0 zo;have yf:=hp.mono h3;have hL:I (((fP t M).2.links p.lst (fP t M).1.fst).fL)=I M.fL+gJ t:=by rw[Mk.links_len,s1.len]
  have s2:=zhI l (catP p (fP t M).1) ((fP t M).2.links p.lst (fP t M).1.fst) (h1.links _ _ h2.f) zzDI s1.on zo;rw[hL] at s2;have hfe:∀ x,x∈(catP p (fP t M).1).fst↔x∈p.fst\/(p.emp=true/\x∈xN t (I M.fL)):=λx=>by
   show x∈(if p.emp=true then dH p.fst (fP t M).1.fst else p.fst)↔_;split
   . rename_i he;rw[qP,s1.fst];simp[he]
   grind
  have qo:∀ x,x∈(catP p (fP t M).1).lst↔x∈oL t (I M.fL)\/(nulT t=true/\x∈p.lst):=λx=>by
   show x∈(if (fP t M).1.emp=true then dH p.lst (fP t M).1.lst else (fP t M).1.lst)↔_;rw[s1.emp];split
   . rename_i he;rw[qP,s1.lst];grind
   rename_i he;rw[s1.lst];simp[he]
  have Bn:(catP p (fP t M).1).emp=(p.emp&&nulT t):=by show (p.emp&&(fP t M).1.emp)=_;rw[s1.emp]
  refine⟨s2.on,?_,?_,?_,?_,λx=> ?_,λx=> ?_,λx y=> ?_⟩
  . rw[s2.cL]
    show (fP t M).2.cL++_=_;rw[s1.cL,uX,List.append_assoc]
  . rw[s2.last]
    show (fP t M).2.last++_=_;rw[s1.last,jO,List.append_assoc,List.replicate_append_replicate]
  . rw[s2.len,hL,jO];omega
  . rw[s2.emp,Bn,nulR,Bool.and_assoc]
  . rw[s2.fst,hfe,Bn,fstR,zMa]
    grind
  . rw[s2.lst,qo,lstR,zMa,nulR]
    grind
  rw[s2.fL]
  have:y∈χ (((fP t M).2.links p.lst (fP t M).1.fst).fL) x []↔y∈χ ((fP t M).2.fL) x []\/(x∈p.lst/\y∈(fP t M).1.fst):=zaR x y _ _ yf.l;rw[this,s1.fL,s1.fst,qo,folR,fstR,zMa]
  grind
end
mutual
theorem zaT:∀ (t:aL) (M:Mk),iJ M->65<I M.fL+gJ t->(fP t M).2.on=true
 | .cL c,M,h,hl=>by
  grind [gJ,fP]
 | .row l,M,h,hl=>by rw[gJ] at hl;rw[fP];exact zhH l iU M h (oF _) hl
 | .either a b,M,h,hl=>by
  rw[gJ] at hl;rw[fP];split
  . omega
  . rename_i h0
    have h0:M.on=false:=by simpa using h0
    by_cases ha:I M.fL+gJ a<=65
    . have s1:=qQ a M h h0 ha
      exact zaT b _ (rA a M h).1 (by rw[s1.len];omega)
    . have:=zaT a M h zo
      grind [xY]
 | .rep t m o,M,h,hl=>by
  rw[gJ] at hl;rw[fP];split
  . omega
  have:=zaT t M h hl
  cases o<;>exact this
theorem zhH:∀ (l:List aL) (p:lF) (M:Mk),iJ M->eT p (I M.fL)->65<I M.fL+jO l->(mkR l p M).2.on=true
 | [],p,M,h,hp,hl=>by rw[jO] at hl;have:=h.le;omega
 | t::l,p,M,h,hp,hl=>by
  rw[jO] at hl;rw[mkR];obtain⟨h1,h2,h3⟩:=rA t M h;have:=hp.mono h3;by_cases h0:M.on=true
  . rw[xY t M h0]
    exact zgG l _ _ h0
  have h0:M.on=false:=by simpa using h0
  by_cases ha:I M.fL+gJ t<=65
  . have s1:=qQ t M h h0 ha
    exact zhH l _ _ (h1.links _ _ h2.f) zzDI (by rw[Mk.links_len,s1.len];omega)
  exact zgG l _ _ (zaT t M h zo)
theorem zgG:∀ (l:List aL) (p:lF) (M:Mk),M.on=true->(mkR l p M).2.on=true
 | [],p,M,h=>by assumption
 | t::l,p,M,h=>by
  rw[mkR,xY t M h];exact zgG l _ _ h
end
