/- Part of a proof. No condition. -/
import Derived.Test.YtghpmhllpaheiaaGreatDoorF32
set_option linter.unusedVariables false
set_option linter.unusedSimpArgs false
namespace Go.Proofs.YtghpmhllpaheiaaGreatDoor
variable {n:Nat} {b:List Nat}
structure jK where
 emp:Bool
 fst:List Nat
 lst:List Nat
structure Mk where
 cL:List (List (Int×Int))
 last:List Int
 fL:List (List Nat)
 on:Bool
def cY {α:Type} [DecidableEq α] (a b:List α):List α:=b.foldl (λo x=>if x∈o then o else o++[x]) a
def eA (a b:List Nat) (F:List (List Nat)):List (List Nat):=a.foldl (λF i=>F.modify i (cY · b)) F
def gW:jK:=⟨true,[],[]⟩
def catP (a b:jK):jK:=⟨a.emp&&b.emp,if a.emp=true then cY a.fst b.fst else a.fst,if b.emp=true then cY a.lst b.lst else b.lst⟩
def zaF (a b:jK):jK:=⟨a.emp||b.emp,cY a.fst b.fst,cY a.lst b.lst⟩
def Mk.links (M:Mk) (a b:List Nat):Mk:={M with fL:=eA a b M.fL}
mutual
def eN:aJ->Mk->jK×Mk
 | .cL c,M=>
  if M.on=true then (gW,M)
  else if 64<M.fL.length then (gW,{M with on:=true})
  else (⟨false,[M.fL.length],[M.fL.length]⟩,⟨M.cL++[c],M.last++[-1],M.fL++[[]],M.on⟩)
 | .row l,M=>sL l gW M
 | .either a b,M=>
  if M.on=true then (gW,M)
  else (zaF (eN a M).1 (eN b (eN a M).2).1,(eN b (eN a M).2).2)
 | .rep t m once,M=>
  if M.on=true then (gW,M)
  else (⟨(eN t M).1.emp||decide (m=0),(eN t M).1.fst,(eN t M).1.lst⟩,if once=true then (eN t M).2 else (eN t M).2.links (eN t M).1.lst (eN t M).1.fst)
def sL:List aJ->jK->Mk->jK×Mk
 | [],p,M=>(p,M)
 | t::l,p,M=>sL l (catP p (eN t M).1) ((eN t M).2.links p.lst (eN t M).1.fst)
end
theorem mkR_snoc (l:List aJ) (t:aJ):∀ (p:jK) (M:Mk),sL (l++[t]) p M=(catP (sL l p M).1 (eN t (sL l p M).2).1,(eN t (sL l p M).2).2.links (sL l p M).1.lst (eN t (sL l p M).2).1.fst):=by
 induction l with
 | nil=>intro p M;rw[List.nil_append,sL,sL,sL]
 | cons u l ih=>intro p M;rw[List.cons_append,sL,ih,sL]
mutual
theorem rT:∀ (t:aJ) (M:Mk),M.on=true->eN t M=(gW,M)
 | .cL c,M,h=>by rw[eN,zP h]
 | .row l,M,h=>by rw[eN,mkR_on l M h]
 | .either a b,M,h=>by rw[eN,zP h]
 | .rep t m o,M,h=>by rw[eN,zP h]
theorem mkR_on:∀ (l:List aJ) (M:Mk),M.on=true->sL l gW M=(gW,M)
 | [],M,h=>by rw[sL]
 | t::l,M,h=>by
  rw[sL,rT t M h];exact mkR_on l M h
end
theorem kL {α:Type} [DecidableEq α] {x:α}:∀ {b a:List α},x∈cY a b↔x∈a\/x∈b
 | [],a=>by simp[cY]
 | y::b,a=>by
  show x∈cY (if y∈a then a else a++[y]) b↔_;rw[kL,List.mem_cons];split
  . rename_i h
    constructor
    . rintro (h1|h1)
      . exact .inl h1
      exact .inr (.inr h1)
    rintro (h1|h1|h1)
    . exact .inl h1
    . subst h1;exact .inl h
    exact .inr h1
  rw[zMa,zMs,or_assoc]
theorem jC {α:Type} [DecidableEq α]:∀ {b a:List α},a.Nodup->(cY a b).Nodup
 | [],a,h=>h
 | y::b,a,h=>by
  show (cY (if y∈a then a else a++[y]) b).Nodup;apply jC;split
  . exact h
  rename_i hy
  rw[List.nodup_append];exact⟨h,by simp,λp hp q hq=>by rw[zMs] at hq;subst hq;exact λe=>hy (e▸hp)⟩
theorem zeK (f:Nat->Int) (hf:∀ x y,f x=f y->x=y):∀ (b a:List Nat),(cY a b).map f=cY (a.map f) (b.map f)
 | [],a=>rfl
 | y::b,a=>by
  show (cY (if y∈a then a else a++[y]) b).map f=cY (if f y∈a.map f then a.map f else a.map f++[f y]) (b.map f);rw[zeK f hf b];have e:f y∈a.map f↔y∈a:=by
   rw[List.mem_map];exact⟨fun⟨x,hx,hxy⟩=>(hf x y hxy)▸hx,λh=>⟨y,h,rfl⟩⟩
  by_cases hy:y∈a
  . rw[zP hy,zP (e.2 hy)]
  rw[zN hy,zN (λh=>hy (e.1 h)),List.map_append]
  rfl
theorem zca {α:Type} [DecidableEq α]:∀ (b a:List α),(cY a b).length<=a.length+b.length
 | [],a=>zR _
 | y::b,a=>by
  show (cY (if y∈a then a else a++[y]) b).length<=_;refine zT (zca b _) ?_;split
  . simp
  simp;omega
theorem zdb:∀ (n:Nat) (l:List Nat),l.Nodup->(∀ x∈l,x<n)->l.length<=n
 | 0,l,h,hl=>by cases l with
  | nil=>simp
  | cons a l=>exact absurd (hl a (by simp)) (by omega)
 | n+1,l,h,hl=>by
  have:=zdb n (l.erase n) (h.erase n) (λx hx=>by
   have h1:=(h.mem_erase_iff).1 hx;have h2:=hl x h1.2;have:=h1.1;omega)
  have h3:=List.length_erase (a:=n) (l:=l);split at h3<;>omega
structure dW (p:jK) (n:Nat):Prop where
 f:∀ x∈p.fst,x<n
 l:∀ x∈p.lst,x<n
 fn:p.fst.Nodup
 ln:p.lst.Nodup
structure zcx (F:List (List Nat)):Prop where
 lt:∀ r∈F,∀ x∈r,x<F.length
 nd:∀ r∈F,r.Nodup
structure gD (M:Mk):Prop where
 le:M.fL.length<=65
 c:M.cL.length=M.fL.length
 a:M.last.length=M.fL.length
 f:zcx M.fL
theorem dW.mono {p:jK} {m:Nat} (h:dW p n) (hm:n<=m):dW p m:=⟨λx hx=>zLd (h.f x hx) hm,λx hx=>zLd (h.l x hx) hm,h.fn,h.ln⟩
theorem lM (n:Nat):dW gW n:=⟨λx hx=>by simp[gW] at hx,λx hx=>by simp[gW] at hx,List.nodup_nil,List.nodup_nil⟩
theorem zaM {a:List Nat} (ha:∀ x∈a,x<n) (hb:∀ x∈b,x<n):∀ x∈cY a b,x<n:=λx hx=>by
 rcases kL.1 hx with h|h
 . exact ha x h
 exact hb x h
theorem zdF {p q:jK} (hp:dW p n) (hq:dW q n):dW (catP p q) n:=by
 unfold catP;refine⟨?_,?_,?_,?_⟩
 . show ∀ x∈(if p.emp=true then cY p.fst q.fst else p.fst),x<n
   split
   . exact zaM hp.f hq.f
   exact hp.f
 . show ∀ x∈(if q.emp=true then cY p.lst q.lst else q.lst),x<n
   split
   . exact zaM hp.l hq.l
   exact hq.l
 . show (if p.emp=true then cY p.fst q.fst else p.fst).Nodup
   split
   . exact jC hp.fn
   exact hp.fn
 show (if q.emp=true then cY p.lst q.lst else q.lst).Nodup
 split
 . exact jC hp.ln
 exact hq.ln
theorem zfw {p q:jK} (hp:dW p n) (hq:dW q n):dW (zaF p q) n:=
 ⟨zaM hp.f hq.f,zaM hp.l hq.l,jC hp.fn,jC hp.ln⟩
theorem mem_mod {α:Type} {f:α->α} {l:List α} {i:Nat} {x:α} (h:x∈l.modify i f):x∈l\/∃ y∈l,x=f y:=by
 obtain⟨j,hj⟩:=List.mem_iff_getElem?.1 h;rw[List.getElem?_modify] at hj;cases hl:l[j]? with
 | none=>rw[hl] at hj;cases hj
 | some y=>
  rw[hl] at hj;simp only[Option.map_eq_map,Option.map_some,Option.some.injEq] at hj;have hy:=zM hl;split at hj
  . exact .inr ⟨y,hy,hj.symm⟩
  exact .inl (hj▸hy)
theorem kV:∀ (a b:List Nat) (F:List (List Nat)),(eA a b F).length=F.length
 | [],b,F=>rfl
 | i::a,b,F=>by
  show (eA a b (F.modify i (cY · b))).length=_;rw[kV,List.length_modify]
theorem vI :∀ (a:List Nat) (F:List (List Nat)),zcx F->(∀ x∈b,x<F.length)->zcx (eA a b F)
 | [],F,h,_=>h
 | i::a,F,h,hb=>by
  show zcx (eA a b (F.modify i (cY · b)));apply vI
  . refine⟨λr hr=> ?_,λr hr=> ?_⟩
    . rw[List.length_modify]
      rcases mem_mod hr with h1|⟨y,hy,rfl⟩
      . exact h.lt r h1
      exact zaM (h.lt y hy) hb
    rcases mem_mod hr with h1|⟨y,hy,rfl⟩
    . exact h.nd r h1
    exact jC (h.nd y hy)
  rw[List.length_modify];exact hb
theorem vJ (p q:Nat):∀ (a:List Nat) (F:List (List Nat)),(∀ x∈a,x<F.length)->(q∈(eA a b F).getD p []↔q∈F.getD p []\/(p∈a/\q∈b))
 | [],F,_=>by simp[eA]
 | i::a,F,ha=>by
  show q∈(eA a b (F.modify i (cY · b))).getD p []↔_;rw[vJ p q a _ (λx hx=>by rw[List.length_modify];exact ha x (by simp[hx]))];have e:q∈(F.modify i (cY · b)).getD p []↔q∈F.getD p []\/(p=i/\q∈b):=by
   rw[zLf,zLf,List.getElem?_modify];by_cases h:i=p
   . subst h
     have hi:i<F.length:=ha i (by simp);rw[zLe hi];simp[kL]
   have h':¬ p=i:=λe=>h e.symm
   simp[h,h']
  rw[e,List.mem_cons];constructor
  . rintro ((h|h)|h)
    . exact .inl h
    . exact .inr ⟨.inl h.1,h.2⟩
    exact .inr ⟨.inr h.1,h.2⟩
  rintro (h|⟨h|h,h2⟩)
  . exact .inl (.inl h)
  . exact .inl (.inr ⟨h,h2⟩)
  exact .inr ⟨h,h2⟩
theorem gD.links {M:Mk} (h:gD M) (a b:List Nat) (hb:∀ x∈b,x<M.fL.length):gD (M.links a b):=
 ⟨by show (eA a b M.fL).length<=65;rw[kV];exact h.le,by show M.cL.length=(eA a b M.fL).length;rw[kV];exact h.c,by show M.last.length=(eA a b M.fL).length;rw[kV];exact h.a,vI a M.fL h.f hb⟩
theorem Mk.links_len (M:Mk) (a b:List Nat):(M.links a b).fL.length=M.fL.length:=kV a b M.fL
mutual
theorem oE:∀ (t:aJ) (M:Mk),gD M->gD (eN t M).2/\dW (eN t M).1 (eN t M).2.fL.length/\M.fL.length<=(eN t M).2.fL.length
 | .cL c,M,h=>by
  rw[eN];split
  . exact⟨h,lM _,zR _⟩
  . split
    . exact⟨⟨h.le,h.c,h.a,h.f⟩,lM _,zR _⟩
    . have e:(M.fL++[[]]).length=M.fL.length+1:=by simp
      refine⟨⟨by show (M.fL++[[]]).length<=65;omega,by simp[h.c],by simp[h.a],?_,?_⟩,⟨?_,?_,by simp,by simp⟩,by show _<=(M.fL++[[]]).length;omega⟩
      . intro r hr x hx
        show x<(M.fL++[[]]).length
        rcases List.mem_append.1 hr with h1|h1
        . have:=h.f.lt r h1 x hx;omega
        rw[zMs] at h1;subst h1;cases hx
      . intro r hr
        rcases List.mem_append.1 hr with h1|h1
        . exact h.f.nd r h1
        rw[zMs] at h1;subst h1;exact List.nodup_nil
      . intro x hx;rw[zMs] at hx;show x<(M.fL++[[]]).length;omega
      . intro x hx;rw[zMs] at hx;show x<(M.fL++[[]]).length;omega
 | .row l,M,h=>by rw[eN];exact mkR_ok l gW M h (lM _)
 | .either a b,M,h=>by
  rw[eN];split
  . exact⟨h,lM _,zR _⟩
  . obtain⟨h1,h2,h3⟩:=oE a M h
    obtain⟨g1,g2,g3⟩:=oE b _ h1;exact⟨g1,zfw (h2.mono g3) g2,zT h3 g3⟩
 | .rep t m o,M,h=>by
  rw[eN];split
  . exact⟨h,lM _,zR _⟩
  obtain⟨h1,h2,h3⟩:=oE t M h
  cases o with
  | true=>exact⟨h1,⟨h2.f,h2.l,h2.fn,h2.ln⟩,h3⟩
  | false=>
   refine⟨h1.links _ _ h2.f,?_,?_⟩
   . show dW _ (Mk.links _ _ _).fL.length
     rw[Mk.links_len];exact⟨h2.f,h2.l,h2.fn,h2.ln⟩
   show _<=(Mk.links _ _ _).fL.length
   rw[Mk.links_len];exact h3
theorem mkR_ok:∀ (l:List aJ) (p:jK) (M:Mk),gD M->dW p M.fL.length->gD (sL l p M).2/\dW (sL l p M).1 (sL l p M).2.fL.length/\M.fL.length<=(sL l p M).2.fL.length
 | [],p,M,h,hp=>by rw[sL];exact⟨h,hp,zR _⟩
 | t::l,p,M,h,hp=>by
  rw[sL];obtain⟨h1,h2,h3⟩:=oE t M h;have Qy:=hp.mono h3;obtain⟨g1,g2,g3⟩:=mkR_ok l (catP p (eN t M).1) ((eN t M).2.links p.lst (eN t M).1.fst) (h1.links _ _ h2.f) (by rw[Mk.links_len];exact zdF Qy h2);rw[Mk.links_len] at g3;exact⟨g1,g2,zT h3 g3⟩
end
structure MkSpec (M M2:Mk) (p:jK) (k:Nat) (em:Bool) (cl:List (List (Int×Int))) (fs ls:Nat->Prop) (fo:Nat->Nat->Prop):Prop where
 on:M2.on=false
 cL:M2.cL=M.cL++cl
 last:M2.last=M.last++List.replicate k (-1)
 len:M2.fL.length=M.fL.length+k
 emp:p.emp=em
 fst:∀ x,x∈p.fst↔fs x
 lst:∀ x,x∈p.lst↔ls x
 fL:∀ x y,y∈M2.fL.getD x []↔y∈M.fL.getD x []\/fo x y
mutual
theorem nW:∀ (t:aJ) (M:Mk),gD M->M.on=false->M.fL.length+eU t<=65->
 MkSpec M (eN t M).2 (eN t M).1 (eU t) (rW t) (iZ t) (· ∈rI t M.fL.length) (· ∈lT t M.fL.length) (mG t M.fL.length)
 | .cL c,M,h,h0,hl=>by
  rw[eU] at hl;rw[eN,zN (by rw[h0];decide),zN (by omega)];refine⟨h0,by rw[iZ],rfl,by simp[eU],by rw[rW],λx=>by rw[rI],λx=>by rw[lT],λx y=> ?_⟩;show y∈(M.fL++[[]]).getD x []↔_;rw[mG,or_false,zLf,zLf]
  rcases Nat.lt_trichotomy x M.fL.length with h|h|h
  . rw[zGl h]
  . subst h;simp
  . rw[zGr (by omega),zGn (l:=M.fL) (by omega),zGn (by simp;omega)]
 | .row l,M,h,h0,hl=>by
  rw[eU] at hl;have:=zeR l gW M h (lM _) h0 hl;rw[eN];refine⟨this.on,by rw[iZ];exact this.cL,by rw[eU];exact this.last,by rw[eU];exact this.len,?_,λx=> ?_,λx=> ?_,λx y=> ?_⟩
  . rw[rW,this.emp];rfl
  . rw[this.fst,rI]
    constructor
    . rintro (h|h)
      . cases h
      exact h.2
    exact λh=>.inr ⟨rfl,h⟩
  . rw[this.lst,lT]
    constructor
    . rintro (h|h)
      . exact h
      cases h.2
    exact λh=>.inl h
  . rw[this.fL,mG]
    constructor
    . rintro (h|h|h)
      . exact .inl h
      . exact .inr h
      cases h.1
    . rintro (h|h)
      . exact .inl h
      . exact .inr (.inl h)
 | .either a b,M,h,h0,hl=>by
  rw[eU] at hl;rw[eN,zN (by rw[h0];decide)];obtain⟨h1,_,_⟩:=oE a M h;have s1:=nW a M h h0 (by omega);have s2:=nW b (eN a M).2 h1 s1.on (by rw[s1.len];omega);rw[s1.len] at s2;refine⟨s2.on,by rw[s2.cL,s1.cL,iZ,List.append_assoc],?_,by rw[s2.len,s1.len,eU];omega,?_,λx=> ?_,λx=> ?_,λx y=> ?_⟩
  . rw[s2.last,s1.last,eU,List.append_assoc,List.replicate_append_replicate]
  . show ((eN a M).1.emp||(eN b (eN a M).2).1.emp)=_
    rw[s1.emp,s2.emp,rW]
  . show x∈cY _ _↔_
    rw[kL,s1.fst,s2.fst,rI,zMa]
  . show x∈cY _ _↔_
    rw[kL,s1.lst,s2.lst,lT,zMa]
  . rw[s2.fL,s1.fL,mG,or_assoc]
 | .rep t m o,M,h,h0,hl=>by
  rw[eU] at hl;rw[eN,zN (by rw[h0];decide)];obtain⟨h1,h2,_⟩:=oE t M h;have s1:=nW t M h h0 (by omega);have e:∀ x y,y∈((if o=true then (eN t M).2 else (eN t M).2.links (eN t M).1.lst (eN t M).1.fst).fL).getD x []↔y∈(eN t M).2.fL.getD x []\/(o=false/\x∈(eN t M).1.lst/\y∈(eN t M).1.fst):=λx y=>by
   cases o with
   | true=>simp
   | false=>
    show y∈(eA _ _ _).getD x []↔_;rw[vJ x y _ _ h2.l];simp
  have e2:∀ f:Mk->List (List (Int×Int)),True:=λ_=>trivial;refine⟨?_,?_,?_,?_,?_,λx=> ?_,λx=> ?_,λx y=> ?_⟩
  . cases o<;>exact s1.on
  . rw[iZ,<-s1.cL];cases o<;>rfl
  . rw[eU,<-s1.last];cases o<;>rfl
  . rw[eU,<-s1.len]
    cases o with
    | true=>rfl
    | false=>exact Mk.links_len _ _ _
  . show ((eN t M).1.emp||decide (m=0))=_
    rw[s1.emp,rW]
  . rw[rI];exact s1.fst x
  . rw[lT];exact s1.lst x
  rw[e,s1.fL,mG,s1.fst,s1.lst,or_assoc]
theorem zeR:∀ (l:List aJ) (p:jK) (M:Mk),gD M->dW p M.fL.length->M.on=false->M.fL.length+iE l<=65->
 MkSpec M (sL l p M).2 (sL l p M).1 (iE l) (p.emp&&nulR l) (pF l) (λx=>x∈p.fst\/(p.emp=true/\x∈fstR l M.fL.length)) (λx=>x∈lstR l M.fL.length\/(nulR l=true/\x∈p.lst)) (λx y=>xV l M.fL.length x y\/(x∈p.lst/\y∈fstR l M.fL.length))
 | [],p,M,h,hp,h0,hl=>by
  rw[sL];refine⟨h0,by simp[pF],by simp[iE],by simp[iE],by simp[nulR],λx=>by simp[fstR],λx=>by simp[lstR,nulR],λx y=>by simp[xV,fstR]⟩
 | t::l,p,M,h,hp,h0,hl=>by
  rw[iE] at hl;rw[sL];obtain⟨h1,h2,h3⟩:=oE t M h;have s1:=nW t M h h0 (by omega);have Qy:=hp.mono h3;have hL:((eN t M).2.links p.lst (eN t M).1.fst).fL.length=M.fL.length+eU t:=by rw[Mk.links_len,s1.len]
  have s2:=zeR l (catP p (eN t M).1) ((eN t M).2.links p.lst (eN t M).1.fst) (h1.links _ _ h2.f) (by rw[Mk.links_len];exact zdF Qy h2) s1.on (by rw[hL];omega);rw[hL] at s2;have Zh:∀ x,x∈(catP p (eN t M).1).fst↔x∈p.fst\/(p.emp=true/\x∈rI t M.fL.length):=λx=>by
   show x∈(if p.emp=true then cY p.fst (eN t M).1.fst else p.fst)↔_;split
   . rename_i he;rw[kL,s1.fst];simp[he]
   rename_i he;simp[he]
  have Qt:∀ x,x∈(catP p (eN t M).1).lst↔x∈lT t M.fL.length\/(rW t=true/\x∈p.lst):=λx=>by
   show x∈(if (eN t M).1.emp=true then cY p.lst (eN t M).1.lst else (eN t M).1.lst)↔_;rw[s1.emp];split
   . rename_i he;rw[kL,s1.lst];simp[he,or_comm]
   rename_i he;rw[s1.lst];simp[he]
  have Sr:(catP p (eN t M).1).emp=(p.emp&&rW t):=by show (p.emp&&(eN t M).1.emp)=_;rw[s1.emp]
  refine⟨s2.on,?_,?_,?_,?_,λx=> ?_,λx=> ?_,λx y=> ?_⟩
  . rw[s2.cL]
    show (eN t M).2.cL++_=_;rw[s1.cL,pF,List.append_assoc]
  . rw[s2.last]
    show (eN t M).2.last++_=_;rw[s1.last,iE,List.append_assoc,List.replicate_append_replicate]
  . rw[s2.len,hL,iE];omega
  . rw[s2.emp,Sr,nulR,Bool.and_assoc]
  . rw[s2.fst,Zh,Sr,fstR,zMa]
    cases p.emp<;>cases rW t<;>simp[or_assoc]
  . rw[s2.lst,Qt,lstR,zMa,nulR]
    cases rW t<;>cases nulR l<;>simp[or_comm,or_assoc]
  rw[s2.fL]
  have:y∈((eN t M).2.links p.lst (eN t M).1.fst).fL.getD x []↔y∈(eN t M).2.fL.getD x []\/(x∈p.lst/\y∈(eN t M).1.fst):=vJ x y _ _ Qy.l;rw[this,s1.fL,s1.fst,Qt,xV,fstR,zMa];constructor
  . rintro ((h|h)|h|h)
    . rcases h with h|h
      . exact .inl h
      exact .inr (.inl (.inl h))
    . exact .inr (.inr ⟨h.1,.inl h.2⟩)
    . exact .inr (.inl (.inr (.inl h)))
    rcases h with⟨h1|h1,h2⟩
    . exact .inr (.inl (.inr (.inr ⟨h1,h2⟩)))
    exact .inr (.inr ⟨h1.2,.inr (by rw[zP h1.1];exact h2)⟩)
  rintro (h|(h|h|h)|⟨h1,h2|h2⟩)
  . exact .inl (.inl (.inl h))
  . exact .inl (.inl (.inr h))
  . exact .inr (.inl h)
  . exact .inr (.inr ⟨.inl h.1,h.2⟩)
  . exact .inl (.inr ⟨h1,h2⟩)
  split at h2
  . rename_i hn;exact .inr (.inr ⟨.inr ⟨hn,h1⟩,h2⟩)
  cases h2
end
mutual
theorem uK:∀ (t:aJ) (M:Mk),gD M->65<M.fL.length+eU t->(eN t M).2.on=true
 | .cL c,M,h,hl=>by
  rw[eU] at hl;rw[eN];split
  . assumption
  . rw[zP (by omega)]
 | .row l,M,h,hl=>by rw[eU] at hl;rw[eN];exact zeQ l gW M h (lM _) hl
 | .either a b,M,h,hl=>by
  rw[eU] at hl;rw[eN];split
  . assumption
  . rename_i h0
    have h0:M.on=false:=by simpa using h0
    by_cases ha:M.fL.length+eU a<=65
    . have s1:=nW a M h h0 ha
      exact uK b _ (oE a M h).1 (by rw[s1.len];omega)
    . have:=uK a M h (by omega)
      show (eN b (eN a M).2).2.on=true;rw[rT b _ this];exact this
 | .rep t m o,M,h,hl=>by
  rw[eU] at hl;rw[eN];split
  . assumption
  have:=uK t M h hl
  cases o<;>exact this
theorem zeQ:∀ (l:List aJ) (p:jK) (M:Mk),gD M->dW p M.fL.length->65<M.fL.length+iE l->(sL l p M).2.on=true
 | [],p,M,h,hp,hl=>by rw[iE] at hl;have:=h.le;omega
 | t::l,p,M,h,hp,hl=>by
  rw[iE] at hl;rw[sL];obtain⟨h1,h2,h3⟩:=oE t M h;have Qy:=hp.mono h3;by_cases h0:M.on=true
  . rw[rT t M h0]
    exact zd1 l _ _ h0
  have h0:M.on=false:=by simpa using h0
  by_cases ha:M.fL.length+eU t<=65
  . have s1:=nW t M h h0 ha
    exact zeQ l _ _ (h1.links _ _ h2.f) (by rw[Mk.links_len];exact zdF Qy h2) (by rw[Mk.links_len,s1.len];omega)
  exact zd1 l _ _ (uK t M h (by omega))
theorem zd1:∀ (l:List aJ) (p:jK) (M:Mk),M.on=true->(sL l p M).2.on=true
 | [],p,M,h=>by rw[sL];exact h
 | t::l,p,M,h=>by
  rw[sL,rT t M h];exact zd1 l _ _ h
end
