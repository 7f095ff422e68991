/- Part of a proof. No condition. -/
import Derived.Test.YtghpmhllpaheiaaGreatDoorF36
import Derived.Test.YtghpmhllpaheiaaGreatDoorF33
set_option linter.unusedVariables false
set_option linter.unusedSimpArgs false
set_option maxRecDepth 100000
set_option maxHeartbeats 16000000
namespace Go.Proofs.YtghpmhllpaheiaaGreatDoor
open Go.RowKit Go.Lib
variable {N M:List Nd} {k a b:Nat} {d:Nd} {t:aJ}
mutual
inductive cO (N:List Nd):Nat->aJ->Prop where
 | place (k:Nat) (d:Nd) (c:List (Int×Int)) (h:N[k]?=some d) (hk:d.k=1) (hn:d.n=1) (hc:lF d.rl c) (hr:∀ r∈d.rl,0<=r.1/\r.1<=1114111/\0<=r.2/\r.2<=1114111):cO N k (.cL c)
 | row (k:Nat) (l:List aJ) (h:kD N k l):cO N k (.row l)
 | either (k:Nat) (d:Nd) (x y:aJ) (h:N[k]?=some d) (hk:d.k=3) (hn:d.n=min 100 (ndN N d.a+ndN N d.b)) (hx:cO N d.a x) (hy:cO N d.b y):cO N k (.either x y)
 | star (k:Nat) (d:Nd) (t:aJ) (h:N[k]?=some d) (hk:d.k=4) (hn:d.n=ndN N d.a) (ht:cO N d.a t):cO N k (.rep t 0 false)
 | plus (k:Nat) (d:Nd) (t:aJ) (h:N[k]?=some d) (hk:d.k=5) (hn:d.n=ndN N d.a) (ht:cO N d.a t):cO N k (.rep t 1 false)
 | opt (k:Nat) (d:Nd) (t:aJ) (h:N[k]?=some d) (hk:d.k=6) (hn:d.n=ndN N d.a) (ht:cO N d.a t):cO N k (.rep t 0 true)
inductive kD (N:List Nd):Nat->List aJ->Prop where
 | nil (k:Nat) (d:Nd) (h:N[k]?=some d) (hk:d.k=0) (hn:d.n=0):kD N k []
 | snoc (k:Nat) (d:Nd) (l:List aJ) (t:aJ) (h:N[k]?=some d) (hk:d.k=2) (hn:d.n=min 100 (ndN N d.a+ndN N d.b)) (hl:kD N d.a l) (ht:cO N d.b t):kD N k (l++[t])
end
theorem pN (h:N<+:M) (hd:N[k]?=some d):M[k]?=some d:=by
 obtain⟨t,rfl⟩:=h;rw[zGl (List.getElem?_eq_some_iff.1 hd).1];exact hd
theorem kM (h:N[k]?=some d):ndN N k=d.n:=by unfold ndN;rw[h];rfl
mutual
theorem cO.get :∀ {k:Nat} {t:aJ},cO N k t->∃ d,N[k]?=some d
 | _,_,.place k d c h _ _ _ _=>⟨d,h⟩
 | _,_,.row k l h=>h.get
 | _,_,.either k d x y h _ _ _ _=>⟨d,h⟩
 | _,_,.star k d t h _ _ _=>⟨d,h⟩
 | _,_,.plus k d t h _ _ _=>⟨d,h⟩
 | _,_,.opt k d t h _ _ _=>⟨d,h⟩
theorem kD.get :∀ {k:Nat} {l:List aJ},kD N k l->∃ d,N[k]?=some d
 | _,_,.nil k d h _ _=>⟨d,h⟩
 | _,_,.snoc k d l t h _ _ _ _=>⟨d,h⟩
end
theorem nI (h:N<+:M) (hd:∃ d,N[k]?=some d):ndN M k=ndN N k:=by
 obtain⟨d,hd⟩:=hd;rw[kM hd,kM (pN h hd)]
mutual
theorem cO.mono (hp:N<+:M):∀ {k:Nat} {t:aJ},cO N k t->cO M k t
 | _,_,.place k d c h hk hn hc hr=>.place k d c (pN hp h) hk hn hc hr
 | _,_,.row k l h=>.row k l (h.mono hp)
 | _,_,.either k d x y h hk hn hx hy=>.either k d x y (pN hp h) hk (by rw[nI hp hx.get,nI hp hy.get];exact hn) (hx.mono hp) (hy.mono hp)
 | _,_,.star k d t h hk hn ht=>.star k d t (pN hp h) hk (by rw[nI hp ht.get];exact hn) (ht.mono hp)
 | _,_,.plus k d t h hk hn ht=>.plus k d t (pN hp h) hk (by rw[nI hp ht.get];exact hn) (ht.mono hp)
 | _,_,.opt k d t h hk hn ht=>.opt k d t (pN hp h) hk (by rw[nI hp ht.get];exact hn) (ht.mono hp)
theorem kD.mono (hp:N<+:M):∀ {k:Nat} {l:List aJ},kD N k l->kD M k l
 | _,_,.nil k d h hk hn=>.nil k d (pN hp h) hk hn
 | _,_,.snoc k d l t h hk hn hl ht=>.snoc k d l t (pN hp h) hk (by rw[nI hp hl.get,nI hp ht.get];exact hn) (hl.mono hp) (ht.mono hp)
end
mutual
theorem cO.places :∀ {k:Nat} {t:aJ},cO N k t->(ndN N k:Int)=bT t
 | _,_,.place k d c h hk hn hc hr=>by rw[kM h,hn,bT];rfl
 | _,_,.row k l h=>by rw[bT];exact h.places
 | _,_,.either k d x y h hk hn hx hy=>by
  have h1:=hx.places;have h2:=hy.places;rw[kM h,hn,bT,<-h1,<-h2];omega
 | _,_,.star k d t h hk hn ht=>by rw[kM h,hn,bT];exact ht.places
 | _,_,.plus k d t h hk hn ht=>by rw[kM h,hn,bT];exact ht.places
 | _,_,.opt k d t h hk hn ht=>by rw[kM h,hn,bT];exact ht.places
theorem kD.places :∀ {k:Nat} {l:List aJ},kD N k l->(ndN N k:Int)=fD l 0
 | _,_,.nil k d h hk hn=>by rw[kM h,hn,fD];rfl
 | _,_,.snoc k d l t h hk hn hl ht=>by
  have h1:=hl.places;have h2:=ht.places;rw[kM h,hn,sA,<-h1,<-h2];omega
end
section
variable {N:List Nd} {B pb:Nat} {s:ByteArray} {x:Pr} {lv:Value} {w:World}
theorem rV (N:List Nd) (d:Nd):(N++[d])[N.length]?=some d:=by simp
theorem fE (N:List Nd) (d:Nd):N<+:N++[d]:=List.prefix_append _ _
theorem new_ab (ha:∃ d,N[a]?=some d) (hb:∃ d,N[b]?=some d):min 100 (ndN N a+ndN N b)=min 100 (ndN (N++[d]) a+ndN (N++[d]) b):=by
 rw[nI (fE N d) ha,nI (fE N d) hb]
theorem ndN_min (h:∀ d∈N,d.n<=100) (a:Nat):min 100 (ndN N a)=ndN N a:=by have:=ndN_le h a;omega
theorem new_a (h:∀ d∈N,d.n<=100) (ha:∃ d,N[a]?=some d):min 100 (ndN N a)=ndN (N++[d]) a:=by
 rw[nI (fE N d) ha,ndN_min h]
theorem mk_nil (N:List Nd):kD (N++[kY N 0 (.slice none 0 0) [] 0 0]) N.length []:=.nil _ _ (rV _ _) rfl rfl
theorem zaX {l:List aJ} (hl:kD N a l) (ht:cO N b t):kD (N++[kY N 2 (.slice none 0 0) [] a b]) N.length (l++[t]):=
 .snoc _ _ l t (rV _ _) rfl (new_ab hl.get ht.get) (hl.mono (fE _ _)) (ht.mono (fE _ _))
theorem mk_either {u:aJ} (hl:cO N a t) (ht:cO N b u):cO (N++[kY N 3 (.slice none 0 0) [] a b]) N.length (.either t u):=
 .either _ _ t u (rV _ _) rfl (new_ab hl.get ht.get) (hl.mono (fE _ _)) (ht.mono (fE _ _))
theorem mk_star (h:∀ d∈N,d.n<=100) (ht:cO N a t):cO (N++[kY N 4 (.slice none 0 0) [] a 0]) N.length (.rep t 0 false):=
 .star _ _ t (rV _ _) rfl (new_a h ht.get) (ht.mono (fE _ _))
theorem mk_plus (h:∀ d∈N,d.n<=100) (ht:cO N a t):cO (N++[kY N 5 (.slice none 0 0) [] a 0]) N.length (.rep t 1 false):=
 .plus _ _ t (rV _ _) rfl (new_a h ht.get) (ht.mono (fE _ _))
theorem mk_opt (h:∀ d∈N,d.n<=100) (ht:cO N a t):cO (N++[kY N 6 (.slice none 0 0) [] a 0]) N.length (.rep t 0 true):=
 .opt _ _ t (rV _ _) rfl (new_a h ht.get) (ht.mono (fE _ _))
theorem mk_place {r:Value} {rl c:List (Int×Int)} (hc:lF rl c) (hr:∀ r∈rl,0<=r.1/\r.1<=1114111/\0<=r.2/\r.2<=1114111):cO (N++[kY N 1 r rl 0 0]) N.length (.cL c):=
 .place _ _ c (rV _ _) rfl rfl hc hr
theorem nil_rng (w:World) (pb:Nat) (lv:Value) (B:Nat):w.ownsRow 0 304 2 (.slice none 0 0) ([]:List (Int×Int)).length (eQ [])/\∀ g,(Value.slice none 0 0).ownBlock=some g->B<=g/\g≠pb/\lv.ownBlock≠some g:=
 ⟨World.ownsRow_nil _ _ _ _,λg hg=>by cases hg⟩
theorem kZ (h:eW B pb s x lv w) (k a b:Nat) (hk:k<=6) (ha:2<=k->a<x.ns.length) (hb:2<=k->k<=3->b<x.ns.length) (hl:x.ns.length<=1000000):
 Calls Tryz.prog 151 #[bJ pb,.agg #[.int .i64 k,.slice none 0 0,.int .i64 a,.int .i64 b,.int .i64 0]] w (zff B pb s x (kY x.ns k (.slice none 0 0) [] a b) lv w):=
 zeT B pb s x lv w h k a b (.slice none 0 0) [] hk ha hb (nil_rng w pb lv B) hl
end
end Go.Proofs.YtghpmhllpaheiaaGreatDoor
namespace Go.Proofs.YtghpmhllpaheiaaGreatDoor
open Go.RowKit Go.Lib
variable {L:gK} {rL:List (List (Int×Int))} {s:aW} {n:Nat} {c:Int}
def nE (l:List Nat) (i:Int) (a:List Int):List Int:=l.foldl (λa k=>a.set k i) a
def Mk.fin (M:Mk) (p:jK) (i:Nat):Mk:={M with fL:=M.fL.modify 0 (cY · p.fst),last:=nE p.lst i M.last}
def uT:List aJ->Nat->Mk->Option Mk
 | [],_,M=>some M
 | t::r,i,M=>if (eN t M).2.on=true then none else uT r (i+1) ((eN t M).2.fin (eN t M).1 i)
def mk0:Mk:=⟨[[]],[-1],[[]],false⟩
theorem zc7:gD mk0:=by
 refine⟨by decide,rfl,rfl,⟨λr hr x hx=> ?_,λr hr=> ?_⟩⟩
 . have h:r=[]:=List.mem_singleton.1 hr
   rw[h] at hx;cases hx
 have h:r=[]:=List.mem_singleton.1 hr
 rw[h];exact List.nodup_nil
theorem yO:∀ (l:List Nat) (i:Int) (a:List Int),(nE l i a).length=a.length
 | [],i,a=>rfl
 | k::l,i,a=>by
  show (nE l i (a.set k i)).length=_;rw[yO,List.length_set]
theorem zbL (i:Int) (p:Nat):∀ (l:List Nat) (a:List Int),(∀ x∈l,x<a.length)->(nE l i a).getD p (-1)=if p∈l then i else a.getD p (-1)
 | [],a,_=>by simp[nE]
 | k::l,a,h=>by
  show (nE l i (a.set k i)).getD p (-1)=_;rw[zbL i p l _ (λx hx=>by rw[List.length_set];exact h x (by simp[hx]))];have hk:=h k (by simp);by_cases e:k=p
  . subst e
    rw[zP (List.mem_cons_self),zLf,List.getElem?_set_self hk];split<;>rfl
  have e1:(a.set k i).getD p (-1)=a.getD p (-1):=by rw[zLf,List.getElem?_set_ne e,<-zLf]
  have e2:p∈k::l↔p∈l:=by rw[List.mem_cons];exact⟨λh=>h.resolve_left (λh=>e h.symm),.inr⟩
  rw[e1];split
  . rename_i h1;rw[zP (e2.2 h1)]
  rename_i h1;rw[zN (λh=>h1 (e2.1 h))]
theorem zeG (F:List (List Nat)) (b:List Nat) (hF:0<F.length) (p q:Nat):q∈(F.modify 0 (cY · b)).getD p []↔q∈F.getD p []\/(p=0/\q∈b):=by
 have:=vJ (b:=b) p q [0] F (λx hx=>by rw[zMs] at hx;omega);have e:eA [0] b F=F.modify 0 (cY · b):=rfl;rw[e] at this;rw[this,zMs]
theorem Mk.fin_ok {M:Mk} {p:jK} (h:gD M) (hp:dW p M.fL.length) (i:Nat):gD (M.fin p i)/\(M.fin p i).fL.length=M.fL.length:=by
 have e:(M.fin p i).fL=eA [0] p.fst M.fL:=rfl;have el:(M.fin p i).fL.length=M.fL.length:=by rw[e,kV]
 refine⟨⟨by rw[el];exact h.le,by rw[el];exact h.c,?_,by rw[e];exact vI _ _ h.f hp.f⟩,el⟩;rw[el];show (nE _ _ _).length=_;rw[yO];exact h.a
theorem qU:∀ (ts:List aJ) (i:Nat) (M M2:Mk),gD M->M.on=false->1<=M.fL.length->uT ts i M=some M2->
 gD M2/\M2.on=false/\M2.cL=M.cL++ts.flatMap iZ/\M2.fL.length=M.fL.length+qQ ts/\
 (∀ q,q∈M2.fL.getD 0 []↔q∈M.fL.getD 0 []\/fstA ts M.fL.length q)/\
 (∀ p q,1<=p->(q∈M2.fL.getD p []↔q∈M.fL.getD p []\/folA ts M.fL.length p q))/\
 (∀ p,M2.last.getD p (-1)=if p<M.fL.length then M.last.getD p (-1) else rulA ts i M.fL.length p)
 | [],i,M,M2,h,h0,h1,hr=>by
  rw[uT] at hr;cases hr;refine⟨h,h0,by simp,by simp[qQ],λq=>by simp[fstA],λp q _=>by simp[folA],λp=> ?_⟩;rw[rulA];split
  . rfl
  . rw[zLf,zGn (by rw[h.a];omega)];rfl
 | t::ts,i,M,M2,h,h0,h1,hr=>by
  rw[uT] at hr;split at hr
  . cases hr
  rename_i qq
  have qq:(eN t M).2.on=false:=by simpa using qq
  have Qt:M.fL.length+eU t<=65:=by
   rcases zLg 65 (M.fL.length+eU t) with h2|h2
   . rw[uK t M h h2] at qq;cases qq
   exact h2
  obtain⟨a1,a2,a3⟩:=oE t M h;have s1:=nW t M h h0 Qt;obtain⟨b1,b2⟩:=Mk.fin_ok a1 a2 i;obtain⟨c1,c2,c3,c4,c5,c6,c7⟩:=qU ts (i+1) _ M2 b1 qq (by rw[b2];omega) hr;rw[b2,s1.len] at c4 c5 c6 c7;have QG:0<(eN t M).2.fL.length:=by omega
  refine⟨c1,c2,?_,by rw[c4,qQ];omega,λq=> ?_,λp q hp=> ?_,λp=> ?_⟩
  . rw[c3]
    show (eN t M).2.cL++_=_;rw[s1.cL,List.flatMap_cons,List.append_assoc]
  . rw[c5]
    have:q∈((eN t M).2.fin (eN t M).1 i).fL.getD 0 []↔q∈(eN t M).2.fL.getD 0 []\/(0=0/\q∈(eN t M).1.fst):=zeG _ _ QG 0 q;rw[this,s1.fL,s1.fst,fstA];constructor
    . rintro ((h|h)|h)
      . rcases h with h|h
        . exact .inl h
        have:=kK t _ _ _ h;omega
      . exact .inr (.inl h.2)
      exact .inr (.inr h)
    rintro (h|h|h)
    . exact .inl (.inl (.inl h))
    . exact .inl (.inr ⟨rfl,h⟩)
    exact .inr h
  . rw[c6 p q hp]
    have:q∈((eN t M).2.fin (eN t M).1 i).fL.getD p []↔q∈(eN t M).2.fL.getD p []\/(p=0/\q∈(eN t M).1.fst):=zeG _ _ QG p q;rw[this,s1.fL,folA];constructor
    . rintro ((h|h)|h)
      . rcases h with h|h
        . exact .inl h
        exact .inr (.inl h)
      . omega
      exact .inr (.inr h)
    rintro (h|h|h)
    . exact .inl (.inl (.inl h))
    . exact .inl (.inl (.inr h))
    exact .inr h
  rw[c7]
  have ZG:∀ x∈(eN t M).1.lst,x<(eN t M).2.last.length:=λx hx=>by rw[a1.a];exact a2.l x hx
  have:((eN t M).2.fin (eN t M).1 i).last.getD p (-1)=if p∈(eN t M).1.lst then (i:Int) else (eN t M).2.last.getD p (-1):=zbL i p _ _ ZG
  rw[this,rulA];have hm:p∈(eN t M).1.lst↔p∈lT t M.fL.length:=s1.lst p;by_cases hp:p<M.fL.length
  . rw[zP (by omega),zP hp,zN (λh=>by have:=iC t _ _ (hm.1 h);omega),s1.last,zLf,zGl (by rw[h.a];exact hp),<-zLf]
  rw[zN hp]
  by_cases Qy:p<M.fL.length+eU t
  . rw[zP Qy]
    by_cases hl:p∈lT t M.fL.length
    . rw[zP (hm.2 hl),zP hl]
    rw[zN (λh=>hl (hm.1 h)),zN hl,zef _ _ _ _ Qy,s1.last,zLf,zGr (by rw[h.a];omega),List.getElem?_replicate]
    split<;>rfl
  rw[zN Qy,zN (λh=>by have:=iC t _ _ h;omega)]
structure RefL (rL:List (List (Int×Int))) (fL:List (List Nat)) (last:List Int) (L:gK):Prop where
 ln:rL.length=L.cL.length
 fn:fL.length=L.cL.length
 an:last.length=L.cL.length
 le:L.cL.length<=65
 cL:∀ k,lF (rL.getD k []) (L.cL.getD k [])
 c0:L.cL.getD 0 []=[]
 fol':∀ p q,p<L.cL.length->0<q->q<128->(q∈fL.getD p []↔(L.fO.getD p (0,0)).has q=true)
 last':∀ p,p<L.cL.length->last.getD p (-1)=L.rU.getD p (-1)
 fok:∀ x∈L.fO,x.Ok
theorem ref_laid {ts:List aJ} {M:Mk} (h:uT ts 0 mk0=some M) (hL:zdA L ts) (hr:rL.length=M.cL.length) (hc:∀ k,lF (rL.getD k []) (M.cL.getD k [])):RefL rL M.fL M.last L:=by
 obtain⟨a1,a2,a3,a4,a5,a6,a7⟩:=qU ts 0 mk0 M zc7 rfl (by decide) h;have e1:M.cL=L.cL:=by rw[a3,hL.cL];rfl
 have e2:mk0.fL.length=1:=rfl;rw[e2] at a4 a5 a6 a7;have hl:=a1.le;have Hg:=hL.len;have XA:M.cL.length=M.fL.length:=a1.c;refine⟨by rw[hr,e1],by rw[<-XA,e1],by rw[a1.a,<-XA,e1],by rw[<-e1];omega,λk=>by rw[<-e1];exact hc k,by rw[hL.cL];rfl,λp q hp hq XX=> ?_,λp hp=> ?_,hL.fok⟩
 . by_cases Tl:p=0
   . subst Tl
     rw[a5,hL.fol0 q hq XX];simp[mk0]
   rw[a6 p q (by omega),hL.fL p (by omega) hp q hq XX]
   have:mk0.fL.getD p []=[]:=by
    rw[zLf];cases p with
    | zero=>omega
    | succ p=>rfl
   rw[this];simp
 rw[a7]
 by_cases Tl:p=0
 . subst Tl
   rw[zP (by decide),hL.rul0];rfl
 rw[zN (by omega),hL.rul p (by omega) hp]
def fM (s:aW) (n:Nat):List Nat:=(List.range n).filter (λk=>s.has k)
def LowS (s:aW) (n:Nat):Prop:=s.Ok/\∀ p,p<128->s.has p=true->p<n
theorem oP {x:Nat}:x∈fM s n↔x<n/\s.has x=true:=by
 unfold fM;rw[List.mem_filter,List.mem_range]
theorem zbB (s:aW) (n:Nat):fM s (n+1)=fM s n++(if s.has n=true then[n] else[]):=by
 unfold fM;rw[List.range_succ,List.filter_append];congr 1;cases h:s.has n<;>simp[h]
theorem zdd {t:aW} (hs:LowS s n) (ht:LowS t n) (h:fM s n=fM t n):s=t:=by
 refine set_ext hs.1 ht.1 λp hp=> ?_;have h1:p∈fM s n↔p∈fM t n:=by rw[h]
 rw[oP,oP] at h1;have h2:=hs.2 p hp;have h3:=ht.2 p hp;cases e1:s.has p<;>cases e2:t.has p
 . rfl
 . rw[e1,e2] at h1
   exact absurd (h1.2 ⟨h3 e2,rfl⟩).2 (by decide)
 . rw[e1,e2] at h1
   exact absurd (h1.1 ⟨h2 e1,rfl⟩).2 (by decide)
 rfl
theorem low_zero (n:Nat):LowS (0,0) n:=⟨rZ,λp _ h=>by rw[nQ] at h;cases h⟩
theorem yD (n:Nat):fM (0,0) n=[]:=by
 unfold fM;rw[List.filter_eq_nil_iff];intro a _;rw[nQ];decide
theorem ofSet_nil (hs:LowS s n):fM s n=[]↔s=(0,0):=by
 constructor
 . intro h
   exact zdd hs (low_zero n) (by rw[h,yD])
 rintro rfl
 exact yD n
theorem vN (s:aW) (n:Nat):(fM s n).length<=n:=by
 have:=List.length_filter_le (λk=>s.has k) (List.range n);rw[List.length_range] at this;exact this
theorem low_start (hn:0<n):LowS (1,0) n:=⟨⟨by decide,by decide⟩,λp hp h=>by rw[zcV p hp] at h;simp at h;omega⟩
theorem zd5 (hn:0<n) (xo:n<=128):fM (1,0) n=[0]:=by
 induction n with
 | zero=>omega
 | succ n ih=>
  rw[zbB];by_cases h0:n=0
  . subst h0;rfl
  rw[ih (by omega) (by omega),zcV n (by omega)]
  simp[h0]
def inCl (l:List (Int×Int)) (c:Int):Bool:=l.any λr=>decide (r.1<=c)&&decide (c<=r.2)
def oD (rL:List (List (Int×Int))) (fL:List (List Nat)) (set:List Nat) (c:Int) (k:Nat):Bool:=decide (1<=k)&&inCl (rL.getD k []) c&&set.any λi=>decide (k∈fL.getD i [])
theorem zaq {l:List (Int×Int)} :inCl l c=true↔yX l c:=by
 unfold inCl yX;simp
def qX (L:gK) (s:aW) (c:Int):aW:=(bI L s L.cL.length).1.and (bG L.cL c)
theorem toS_low (Qt:L.cL.length<=65) (Hv:∀ x∈L.fO,x.Ok) (s:aW) (c:Int):LowS (qX L s c) L.cL.length:=by
 refine⟨ok_and (zan Hv s _),λp hp h=> ?_⟩;unfold qX at h;rw[has_and,Bool.and_eq_true,zaU _ _ _ hp] at h
 rcases zLg p L.cL.length with h1|h1
 . exact h1
 rw[zGn h1] at h
 exact absurd h.2 (by simp)
theorem zek {k:Nat} (hk:k<128):(qX L s c).has k=true↔(∃ i,i<L.cL.length/\s.has i=true/\(L.fO.getD i (0,0)).has k=true)/\eB (L.cL.getD k []) c=true:=by
 unfold qX;rw[has_and,Bool.and_eq_true,xO,zaU _ _ _ hk,zLf];refine and_congr_right λ_=> ?_;cases L.cL[k]? with
 | none=>simp[eB]
 | some x=>rfl
theorem after_eq {fL:List (List Nat)} {last:List Int} (h:RefL rL fL last L) (s:aW) (hc:cH c=true) (m:Nat) (hm:m<=L.cL.length):
 (List.range m).filter (oD rL fL (fM s L.cL.length) c)=fM (qX L s c) m:=by
 unfold fM;apply List.filter_congr;intro k hk;rw[List.mem_range] at hk;have Qt:=h.le;apply Bool.eq_iff_iff.2;rw[zek (by omega)];unfold oD;rw[Bool.and_eq_true,Bool.and_eq_true,decide_eq_true_eq,zaq,(h.cL k).inr c hc,List.any_eq_true];have e1:eB (L.cL.getD k []) c=true↔yX (L.cL.getD k []) c:=by
  unfold eB;rw[hc,Bool.true_and];exact zaq
 rw[e1];constructor
 . rintro⟨⟨h1,h2⟩,i,hi,hf⟩
   rw[<-fM,oP] at hi;exact⟨⟨i,hi.1,hi.2,(h.fol' i k hi.1 (by omega) (by omega)).1 (by simpa using hf)⟩,h2⟩
 rintro⟨⟨i,hi,hs,hf⟩,h2⟩
 have XU:1<=k:=by
  rcases Nat.eq_zero_or_pos k with rfl|h0
  . rw[h.c0] at h2
    obtain⟨r,hr,_⟩:=h2;cases hr
  exact h0
 exact⟨⟨XU,h2⟩,i,by rw[<-fM];exact oP.2 ⟨hi,hs⟩,by simpa using (h.fol' i k hi (by omega) (by omega)).2 hf⟩
theorem zbb (Qt:L.cL.length<=65) (Hv:∀ x∈L.fO,x.Ok) (s:aW) (hc:¬ cH c=true):qX L s c=(0,0):=by
 refine set_ext (toS_low Qt Hv s c).1 rZ λp hp=> ?_;rw[nQ];cases e:(qX L s c).has p with
 | false=>rfl
 | true=>
  rw[zek hp] at e;have:=e.2;unfold eB at this;rw[Bool.and_eq_true] at this;exact absurd this.1 hc
def jB (last:List Int) (Hw:Int) (i:Nat):Int:=if 0<=last.getD i (-1)/\(Hw<0\/last.getD i (-1)<Hw) then last.getD i (-1) else Hw
theorem rule_eq {fL:List (List Nat)} {last:List Int} (h:RefL rL fL last L) (s:aW):∀ m,m<=L.cL.length->(fM s m).foldl (jB last) (-1)=(bI L s m).2
 | 0,_=>rfl
 | m+1,hm=>by
  have ih:=rule_eq h s m (by omega);rw[zbB,List.foldl_append,ih,bI];(try dsimp only);split
  . show jB last _ m=_
    unfold jB;rw[h.last' m (by omega)]
  rfl
theorem vD {F:aW}:∀ (ms sE:List aW) (row:List Int) (sets2:List aW) (Ym:List Int),gM F ms sE row=some (sets2,Ym)->row<+:Ym/\∀ j,sE.length<=j->j<sets2.length->∃ k,k<Ym.length/\Ym.getD k (-1)=(j:Int)
 | [],sE,row,sets2,Ym,h=>by
  rw[gM] at h;cases h;exact⟨List.prefix_refl _,λj h1 h2=>by omega⟩
 | m::ms,sE,row,sets2,Ym,h=>by
  rw[gM] at h;(try dsimp only at h);split at h
  . obtain⟨h1,h2⟩:=vD ms _ _ _ _ h
    exact⟨(List.prefix_append _ _).trans h1,h2⟩
  split at h
  . obtain⟨h1,h2⟩:=vD ms _ _ _ _ h
    exact⟨(List.prefix_append _ _).trans h1,h2⟩
  split at h
  . cases h
  obtain⟨h1,h2⟩:=vD ms _ _ _ _ h
  refine⟨(List.prefix_append _ _).trans h1,λj h3 h4=> ?_⟩;by_cases e:j=sE.length
  . subst e
    obtain⟨t,rfl⟩:=h1;exact⟨row.length,by simp,by simp[zLf]⟩
  exact h2 j (by simp;omega) h4
theorem uI {ms:List aW}:∀ (f:Nat) (sE:List aW) (rU:List Int) (gO:List (List Int)) (YV:List Int) (YU:List (List Int)),bU L ms f sE rU gO=some (YV,YU)->gO.length=rU.length->rU.length<=sE.length->(∀ j,0<j->j<sE.length->∃ i k,i<j/\i<gO.length/\k<(gO.getD i []).length/\(gO.getD i []).getD k (-1)=(j:Int))->
 ∀ j,0<j->j<YV.length->∃ i k,i<j/\k<(YU.getD i []).length/\(YU.getD i []).getD k (-1)=(j:Int)
 | 0,sE,rU,gO,YV,YU,h,hl,Qt,hr=>by
  rw[bU] at h;split at h
  . cases h
  . cases h
    intro j h1 h2;obtain⟨i,k,e1,_,e2,e3⟩:=hr j h1 (by omega);exact⟨i,k,e1,e2,e3⟩
 | f+1,sE,rU,gO,YV,YU,h,hl,Qt,hr=>by
  rw[bU] at h;split at h
  . rename_i Hf
    dsimp only at h;split at h
    . cases h
    rename_i Yw row hg
    obtain⟨h1,h2⟩:=vD _ _ _ _ _ hg;have NP:sE.length<=Yw.length:=by
     have qf:∀ (ms sE:List aW) (row:List Int) (sets2:List aW) (Ym:List Int) (F:aW),gM F ms sE row=some (sets2,Ym)->sE.length<=sets2.length:=by
      intro ms
      induction ms with
      | nil=>intro sE row sets2 Ym F h;rw[gM] at h;cases h;exact zR _
      | cons m ms ih=>
       intro sE row sets2 Ym F h;rw[gM] at h;(try dsimp only at h);split at h
       . exact ih _ _ _ _ _ h
       split at h
       . exact ih _ _ _ _ _ h
       split at h
       . cases h
       have:=ih _ _ _ _ _ h
       simp at this;omega
     exact qf _ _ _ _ _ _ hg
    refine uI f Yw _ _ YV YU h (by simp[hl]) (by simp;omega) λj h3 h4=> ?_;by_cases hj:j<sE.length
    . obtain⟨i,k,e1,e2,e3,e4⟩:=hr j h3 hj
      have e5:(gO++[row]).getD i []=gO.getD i []:=by rw[zLf,zGl e2,<-zLf]
      exact⟨i,k,e1,by simp;omega,by rw[e5];exact e3,by rw[e5];exact e4⟩
    obtain⟨k,e1,e2⟩:=h2 j (by omega) h4
    have e5:(gO++[row]).getD gO.length []=row:=by simp[zLf]
    exact⟨gO.length,k,by omega,by simp,by rw[e5];exact e1,by rw[e5];exact e2⟩
  cases h
  intro j h1 h2;obtain⟨i,k,e1,_,e2,e3⟩:=hr j h1 (by omega);exact⟨i,k,e1,e2,e3⟩
theorem zfF {ms:List aW} {f:Nat} {rU:List Int} {gO:List (List Int)} (h:bU L ms f [(1,0)] [] []=some (rU,gO)):∀ j,0<j->j<rU.length->∃ i k,i<j/\k<(gO.getD i []).length/\(gO.getD i []).getD k (-1)=(j:Int):=
 uI f _ _ _ _ _ h rfl (by simp) (λj h1 h2=>by simp at h2;omega)
end Go.Proofs.YtghpmhllpaheiaaGreatDoor
namespace Go.Proofs.YtghpmhllpaheiaaGreatDoor
variable {i k n:Nat} {T:iP} {b b2:jI}
theorem jW {l:List Int} {x:Int} (h:i<l.length):(l.set i x).getD i 0=x:=by
 rw[zLf,List.getElem?_set_self h];rfl
theorem dY {l:List Int} {j:Nat} {x:Int} (h:i≠j):(l.set i x).getD j 0=l.getD j 0:=by
 rw[zLf,List.getElem?_set_ne h,<-zLf]
def yU (T:iP) (k:Nat):Int:=fJ (T.cU.getD k 0)
def qH (T:iP) (i k:Nat):Int:=(T.gO.getD i []).getD k (-1)
def ruO (T:iP) (u:Int):Int:=T.rU.getD u.toNat 0
def dO (T:iP) (far:List Int) (i k:Nat):Int:=if 0<=ruO T (qH T i k) then yU T k-1 else yU T k+far.getD (qH T i k).toNat 0
def zdz (T:iP) (i j:Nat):Prop:=∃ k,k<(T.gO.getD i []).length/\qH T i k=(j:Int)/\ruO T (j:Int)<0
def RtO (T:iP) (i j:Nat):Prop:=i=j\/Relation.TransGen (zdz T) i j
def CycO (T:iP):Prop:=∃ j,Relation.TransGen (zdz T) j j
theorem RtO.step {j:Nat} (h:RtO T i j) (e:zdz T j k):Relation.TransGen (zdz T) i k:=by
 rcases h with rfl|h
 . exact .single e
 exact .tail h e
theorem zfc {u:Int} {r:List Int} (h:(T.gO.getD i []).drop k=u::r):k<(T.gO.getD i []).length/\qH T i k=u/\(T.gO.getD i []).drop (k+1)=r:=by
 have hk:k<(T.gO.getD i []).length:=by
  rcases zLg k (T.gO.getD i []).length with h1|h1
  . exact h1
  rw[List.drop_eq_nil_of_le h1] at h;cases h
 rw[List.drop_eq_getElem_cons hk] at h;injection h with h1 h2
 refine⟨hk,?_,h2⟩;unfold qH;rw[zLf,zLe hk];exact h1
theorem yT :∀ (f:Nat),(∀ i b b2,iU T f i b=some b2->b.round=true->b2.round=true)/\(∀ i k r b b2,cJ T f i k r b=some b2->b.round=true->b2.round=true):=by
 intro f
 induction f with
 | zero=>exact⟨λi b b2 h=>(by rw[iU] at h;cases h),λi k r b b2 h=>(by rw[cJ] at h;cases h)⟩
 | succ f ih=>
  refine⟨λi b b2 h hr=> ?_,λi k r b b2 h hr=> ?_⟩
  . rw[iU] at h
    split at h
    . cases h
    rename_i b3 e
    cases h;have h9:=ih.2 _ _ _ _ _ e hr;exact h9
  cases r with
  | nil=>rw[cJ] at h;cases h;exact hr
  | cons u r=>
   rw[cJ] at h;split at h
   . exact ih.2 _ _ _ _ _ h hr
   simp only at h
   split at h
   . exact ih.2 _ _ _ _ _ h hr
   split at h
   . exact ih.2 _ _ _ _ _ h rfl
   split at h
   . cases h
   rename_i b3 e
   have h1:b3.round=true:=by
    split at e
    . exact ih.1 _ _ _ e hr
    cases e;exact hr
   exact ih.2 _ _ _ _ _ h h1
theorem zbc :∀ (f:Nat),(∀ i b b2,iU T f i b=some b2->∀ j,b2.state.getD j 0=1->b.state.getD j 0=1)/\(∀ i k r b b2,cJ T f i k r b=some b2->∀ j,b2.state.getD j 0=1->b.state.getD j 0=1):=by
 intro f
 induction f with
 | zero=>exact⟨λi b b2 h=>(by rw[iU] at h;cases h),λi k r b b2 h=>(by rw[cJ] at h;cases h)⟩
 | succ f ih=>
  refine⟨λi b b2 h j hj=> ?_,λi k r b b2 h j hj=> ?_⟩
  . rw[iU] at h
    split at h
    . cases h
    rename_i b3 e
    cases h;have hj:(b3.state.set i 2).getD j 0=1:=hj;by_cases Qr:i=j
    . subst Qr
      rcases zLg i b3.state.length with hl|hl
      . rw[jW hl] at hj;exact absurd hj (by decide)
      rw[zLf,zGn (by simp;exact hl)] at hj
      exact absurd hj (by decide)
    rw[dY Qr] at hj
    have:=ih.2 _ _ _ _ _ e j hj;have h2:(b.state.set i 1).getD j 0=1:=this;rwa [dY Qr] at h2
  cases r with
  | nil=>rw[cJ] at h;cases h;exact hj
  | cons u r=>
   rw[cJ] at h;split at h
   . exact ih.2 _ _ _ _ _ h j hj
   simp only at h
   split at h
   . exact ih.2 _ _ _ _ _ h j hj
   split at h
   . exact ih.2 _ _ _ _ _ h j hj
   split at h
   . cases h
   rename_i b3 e
   have h1:b3.state.getD j 0=1:=ih.2 _ _ _ _ _ h j hj;split at e
   . exact ih.1 _ _ _ e j h1
   cases e;exact h1
theorem walk_cyc :∀ (f:Nat),(∀ i b b2,iU T f i b=some b2->(∀ j,b.state.getD j 0=1->RtO T j i)->b2.round=true->b.round=true\/CycO T)/\(∀ i k r b b2,cJ T f i k r b=some b2->(T.gO.getD i []).drop k=r->(∀ j,b.state.getD j 0=1->RtO T j i)->b2.round=true->b.round=true\/CycO T):=by
 intro f
 induction f with
 | zero=>exact⟨λi b b2 h=>(by rw[iU] at h;cases h),λi k r b b2 h=>(by rw[cJ] at h;cases h)⟩
 | succ f ih=>
  refine⟨λi b b2 h hp hr=> ?_,λi k r b b2 h hd hp hr=> ?_⟩
  . rw[iU] at h
    split at h
    . cases h
    rename_i b3 e
    cases h;refine ih.2 i 0 (T.gO.getD i []) {b with state:=b.state.set i 1} b3 e rfl (λj hj=> ?_) hr;have hj:(b.state.set i 1).getD j 0=1:=hj;by_cases Qr:i=j
    . exact .inl Qr.symm
    rw[dY Qr] at hj
    exact hp j hj
  cases r with
  | nil=>rw[cJ] at h;cases h;exact .inl hr
  | cons u r=>
   obtain⟨hk,hu,yl⟩:=zfc hd;rw[cJ] at h;split at h
   . exact ih.2 _ _ _ _ _ h yl hp hr
   rename_i Lm
   obtain⟨t,rfl⟩:=Int.eq_ofNat_of_zero_le (Int.not_lt.1 Lm);simp only[Int.toNat_natCast] at h;split at h
   . have h9:=ih.2 _ _ _ _ _ h yl hp hr
     exact h9
   rename_i JZ
   have hE:zdz T i t:=⟨k,hk,hu,by unfold ruO;simpa using JZ⟩;split at h
   . rename_i h1
     exact .inr ⟨t,(hp t h1).step hE⟩
   split at h
   . cases h
   rename_i b3 e
   have yx:∀ j,b3.state.getD j 0=1->RtO T j i:=λj hj=>by
    split at e
    . exact hp j ((zbc f).1 _ _ _ e j hj)
    cases e;exact hp j hj
   rcases ih.2 _ _ _ _ _ h yl yx hr with h5|h5
   . split at e
     . have h9:=ih.1 _ _ _ e (λj hj=>.inr ((hp j hj).step hE)) h5
       exact h9
     cases e;exact .inl h5
   exact .inr h5
def uY (T:iP) (b:jI) (i m:Nat):Prop:=∀ k,k<m->0<=qH T i k->dO T b.far i k<=b.far.getD i 0/\(ruO T (qH T i k)<0->b.state.getD (qH T i k).toNat 0=2)
def AttO (T:iP) (b:jI) (i:Nat):Prop:=b.far.getD i 0<=0\/∃ k,k<(T.gO.getD i []).length/\0<=qH T i k/\b.far.getD i 0<=dO T b.far i k/\(ruO T (qH T i k)<0->b.state.getD (qH T i k).toNat 0=2)
def DoneO (T:iP) (b:jI) (i:Nat):Prop:=uY T b i (T.gO.getD i []).length/\AttO T b i
def nH (T:iP) (b:jI):Prop:=∀ j,b.state.getD j 0=2->DoneO T b j
structure WI (n:Nat) (b:jI):Prop where
 ls:b.state.length=n
 lf:b.far.length=n
 st:∀ j,b.state.getD j 0=0\/b.state.getD j 0=1\/b.state.getD j 0=2
 nn:∀ j,0<=b.far.getD j 0
 z:∀ j,b.state.getD j 0=0->b.far.getD j 0<=0
def qK (b b2:jI):Prop:=∀ j,b.state.getD j 0=2->b2.state.getD j 0=2/\b2.far.getD j 0=b.far.getD j 0
theorem dO_same (hs:qK b b2) (h:ruO T (qH T i k)<0->b.state.getD (qH T i k).toNat 0=2):dO T b2.far i k=dO T b.far i k:=by
 unfold dO;split
 . rfl
 rename_i hr
 rw[(hs _ (h (by omega))).2]
theorem uY.same (hs:qK b b2) {m:Nat} (hi:b.far.getD i 0<=b2.far.getD i 0) (h:uY T b i m):uY T b2 i m:=λk hk ht=>by
 obtain⟨h1,h2⟩:=h k hk ht;exact⟨by rw[dO_same hs h2];omega,λhr=>(hs _ (h2 hr)).1⟩
theorem AttO.same (hs:qK b b2) (hi:b2.far.getD i 0<=b.far.getD i 0) (h:AttO T b i):AttO T b2 i:=by
 rcases h with h|⟨k,h1,h2,h3,h4⟩
 . exact .inl (by omega)
 exact .inr ⟨k,h1,h2,by rw[dO_same hs h4];omega,λhr=>(hs _ (h4 hr)).1⟩
theorem DoneO.same (hs:qK b b2) (hi:b2.far.getD i 0=b.far.getD i 0) (h:DoneO T b i):DoneO T b2 i:=⟨h.1.same hs (by omega),h.2.same hs (by omega)⟩
theorem WI.open (h:WI n b) (i:Nat) (x:Int) (hx:x=1\/x=2):WI n {b with state:=b.state.set i x}:=by
 refine⟨by simp[h.ls],h.lf,λj=> ?_,h.nn,λj hj=> ?_⟩
 . show (b.state.set i x).getD j 0=0\/_
   by_cases Qr:i=j
   . subst Qr
     rcases zLg i b.state.length with hl|hl
     . rw[jW hl];exact .inr hx
     rw[List.set_eq_of_length_le hl];exact h.st i
   rw[dY Qr];exact h.st j
 have hj:(b.state.set i x).getD j 0=0:=hj
 show b.far.getD j 0<=0;by_cases Qr:i=j
 . subst Qr
   rcases zLg i b.state.length with hl|hl
   . rw[jW hl] at hj;omega
   rw[List.set_eq_of_length_le hl] at hj;exact h.z i hj
 rw[dY Qr] at hj;exact h.z j hj
theorem WI.far (h:WI n b) (i:Nat) (h1:b.state.getD i 0=1) (x:Int):WI n {b with far:=b.far.set i (max (b.far.getD i 0) x)}:=by
 refine⟨h.ls,by simp[h.lf],h.st,λj=> ?_,λj hj=> ?_⟩
 . show 0<=(b.far.set i _).getD j 0
   by_cases Qr:i=j
   . subst Qr
     rcases zLg i b.far.length with hl|hl
     . rw[jW hl];have:=h.nn i;omega
     rw[List.set_eq_of_length_le hl];exact h.nn i
   rw[dY Qr];exact h.nn j
 have hj:b.state.getD j 0=0:=hj
 have Qr:i≠j:=λe=>by subst e;omega
 show (b.far.set i _).getD j 0<=0;rw[dY Qr];exact h.z j hj
theorem far_new (h:WI n b) (hi:i<n) (x:Int):(b.far.set i (max (b.far.getD i 0) x)).getD i 0=max (b.far.getD i 0) x:=jW (by rw[h.lf];exact hi)
theorem qK.far (h1:b.state.getD i 0=1) (x:Int):qK b {b with far:=b.far.set i x}:=λj hj=>by
 have e:i≠j:=λe=>by subst e;omega
 exact⟨hj,dY e⟩
theorem walk_done (hc:∀ i k,qH T i k<(n:Int)) (hw:∀ i k,0<=qH T i k->1<=yU T k):∀ (f:Nat),
 (∀ i b b2,iU T f i b=some b2->i<n->WI n b->b.state.getD i 0=0->nH T b->b2.round=false->
  WI n b2/\nH T b2/\(∀ j,b.state.getD j 0≠0->b2.state.getD j 0=b.state.getD j 0/\b2.far.getD j 0=b.far.getD j 0)/\b2.state.getD i 0=2)/\
 (∀ i k r b b2,cJ T f i k r b=some b2->(T.gO.getD i []).drop k=r->i<n->WI n b->b.state.getD i 0=1->nH T b->uY T b i k->AttO T b i->b2.round=false->
  WI n b2/\nH T b2/\(∀ j,j≠i->b.state.getD j 0≠0->b2.state.getD j 0=b.state.getD j 0/\b2.far.getD j 0=b.far.getD j 0)/\b2.state.getD i 0=1/\DoneO T b2 i):=by
 intro f
 induction f with
 | zero=>exact⟨λi b b2 h=>(by rw[iU] at h;cases h),λi k r b b2 h=>(by rw[cJ] at h;cases h)⟩
 | succ f ih=>
  refine⟨λi b b2 h hi hb h0 ha hr=> ?_,λi k r b b2 h hd hi hb h1 ha AM Ur hr=> ?_⟩
  . rw[iU] at h
    split at h
    . cases h
    rename_i b3 e
    cases h;have hl:i<b.state.length:=by rw[hb.ls];exact hi
    have YM:=hb.z i h0;have hs:qK b {b with state:=b.state.set i 1}:=λj hj=>by
     have e:i≠j:=λe=>by subst e;omega
     exact⟨by show (b.state.set i 1).getD j 0=2;rw[dY e];exact hj,rfl⟩
    obtain⟨q1,q2,q3,q4,q5⟩:=ih.2 i 0 _ _ b3 e rfl hi (hb.open i 1 (.inl rfl)) (jW hl) (λj hj=>by
     have hj:(b.state.set i 1).getD j 0=2:=hj;have Qr:i≠j:=λe=>by subst e;rw[jW hl] at hj;omega
     rw[dY Qr] at hj;exact (ha j hj).same hs rfl) (λk hk=>by omega) (.inl (by show b.far.getD i 0<=0;omega)) hr
    have P7:i<b3.state.length:=by rw[q1.ls];exact hi
    have jn:qK b3 {b3 with state:=b3.state.set i 2}:=λj hj=>by
     have e:i≠j:=λe=>by subst e;omega
     exact⟨by show (b3.state.set i 2).getD j 0=2;rw[dY e];exact hj,rfl⟩
    refine⟨q1.open i 2 (.inr rfl),λj hj=> ?_,λj hj=> ?_,jW P7⟩
    . have hj:(b3.state.set i 2).getD j 0=2:=hj
      by_cases Qr:i=j
      . subst Qr;exact q5.same jn rfl
      rw[dY Qr] at hj
      exact (q2 j hj).same jn rfl
    have Qr:i≠j:=λe=>by subst e;omega
    have:=q3 j (λe=>Qr e.symm) (by show (b.state.set i 1).getD j 0≠0;rw[dY Qr];exact hj);refine⟨?_,this.2⟩;show (b3.state.set i 2).getD j 0=_;rw[dY Qr,this.1];show (b.state.set i 1).getD j 0=_;rw[dY Qr]
  cases r with
  | nil=>
   rw[cJ] at h;cases h;have hk:(T.gO.getD i []).length<=k:=by
    rcases zLg k (T.gO.getD i []).length with h3|h3
    . rw[List.drop_eq_getElem_cons h3] at hd;cases hd
    exact h3
   exact⟨hb,ha,λj _ _=>⟨rfl,rfl⟩,h1,λk' o9=>AM k' (by omega),Ur⟩
  | cons u r=>
   obtain⟨hk,hu,yl⟩:=zfc hd;rw[cJ] at h;split at h
   . rename_i Lm
     refine ih.2 i (k+1) r b b2 h yl hi hb h1 ha (λk' o9 ht=> ?_) Ur hr
     rcases zLg k' k with h3|h3
     . exact AM k' h3 ht
     have:k'=k:=by omega
     subst this;omega
   rename_i Lm
   obtain⟨t,rfl⟩:=Int.eq_ofNat_of_zero_le (Int.not_lt.1 Lm);simp only[Int.toNat_natCast] at h;have Kv:1<=fJ (T.cU.getD k 0):=hw i k (by omega);have bh:yU T k=fJ (T.cU.getD k 0):=rfl;have ue:t<n:=by have:=hc i k;omega
   generalize fJ (T.cU.getD k 0)=wd at h Kv bh;have Hk:=hb.far i h1 (wd-1);have ye:=qK.far h1 (max (b.far.getD i 0) (wd-1));have QT:=far_new hb hi (wd-1);have qx:∀ j,({b with far:=b.far.set i (max (b.far.getD i 0) (wd-1))}:jI).state.getD j 0=b.state.getD j 0:=λ_=>rfl;have Gh:∀ j,j≠i->(b.far.set i (max (b.far.getD i 0) (wd-1))).getD j 0=b.far.getD j 0:=λj hj=>dY (λe=>hj e.symm);have NX:({b with far:=b.far.set i (max (b.far.getD i 0) (wd-1))}:jI).round=b.round:=rfl
   have KX:({b with far:=b.far.set i (max (b.far.getD i 0) (wd-1))}:jI).far.getD i 0=max (b.far.getD i 0) (wd-1):=QT;have P4:∀ j,j≠i->({b with far:=b.far.set i (max (b.far.getD i 0) (wd-1))}:jI).far.getD j 0=b.far.getD j 0:=Gh;clear QT Gh;have KS:nH T {b with far:=b.far.set i (max (b.far.getD i 0) (wd-1))}:=λj hj=>by
    have Qr:j≠i:=λe=>by subst e;have:b.state.getD j 0=2:=hj;omega
    exact (ha j hj).same ye (P4 j Qr)
   have Xq:uY T {b with far:=b.far.set i (max (b.far.getD i 0) (wd-1))} i k:=AM.same ye (by rw[KX];omega);generalize hB:({b with far:=b.far.set i (max (b.far.getD i 0) (wd-1))}:jI)=b1 at h Hk ye KX P4 qx KS Xq NX;split at h
   . rename_i JZ
     have ic:0<=ruO T (qH T i k):=by rw[hu];exact JZ
     have JV:∀ F:List Int,dO T F i k=wd-1:=λF=>by unfold dO;rw[zP ic,bh]
     obtain⟨p1,p2,p3,p4,p5⟩:=ih.2 i (k+1) r b1 b2 h yl hi Hk (by rw[qx];exact h1) KS (λk' o9 ht=>by
      rcases zLg k' k with h3|h3
      . exact Xq k' h3 ht
      . have:k'=k:=by omega
        subst this;exact⟨by rw[JV,KX];omega,λhx=>by omega⟩) (by
      rcases Int.le_total (wd-1) (b.far.getD i 0) with h3|h3
      . exact Ur.same ye (by rw[KX];omega)
      exact .inr ⟨k,hk,by omega,by rw[JV,KX];omega,λhx=>by omega⟩) hr
     exact⟨p1,p2,λj hj Jn=>by
      obtain⟨e1,e2⟩:=p3 j hj (by rw[qx];exact Jn);exact⟨by rw[e1,qx],by rw[e2,P4 j hj]⟩,p4,p5⟩
   rename_i JZ
   have ic:ruO T (qH T i k)<0:=by rw[hu];unfold ruO;rw[Int.toNat_natCast];omega
   split at h
   . have:=(yT f).2 _ _ _ _ _ h rfl
     rw[this] at hr;cases hr
   rename_i NT
   split at h
   . cases h
   rename_i b3 e
   have OE:b3.round=false:=by
    cases hx:b3.round with
    | false=>rfl
    | true=>
     have:=(yT f).2 _ _ _ _ _ h hx;rw[this] at hr;cases hr
   have Pw:WI n b3/\nH T b3/\(∀ j,b1.state.getD j 0≠0->b3.state.getD j 0=b1.state.getD j 0/\b3.far.getD j 0=b1.far.getD j 0)/\b3.state.getD t 0=2:=by
    split at e
    . rename_i h0
      exact ih.1 t b1 b3 e ue Hk (by rw[qx];exact h0) KS OE
    rename_i h0
    cases e;refine⟨Hk,KS,λ_ _=>⟨rfl,rfl⟩,?_⟩
    rcases Hk.st t with h3|h3|h3
    . exact absurd (by rw[<-qx];exact h3) h0
    . exact absurd (by rw[<-qx];exact h3) NT
    exact h3
   obtain⟨Qi,PY,A2,VX⟩:=Pw;have Nl:b3.state.getD i 0=1:=by rw[(A2 i (by rw[qx];omega)).1,qx,h1]
   have jn:qK b1 b3:=λj hj=>by
    obtain⟨e1,e2⟩:=A2 j (by omega);exact⟨by omega,e2⟩
   have Ge:b3.far.getD i 0=max (b.far.getD i 0) (wd-1):=by rw[(A2 i (by rw[qx];omega)).2,KX]
   have Qa:=Qi.far i Nl (wd+b3.far.getD t 0);have Dx:=qK.far Nl (max (b3.far.getD i 0) (wd+b3.far.getD t 0));have l9:=far_new Qi hi (wd+b3.far.getD t 0);have hnt:=Qi.nn t;have hti:t≠i:=λe=>by subst e;omega
   have JV:dO T (b3.far.set i (max (b3.far.getD i 0) (wd+b3.far.getD t 0))) i k=wd+b3.far.getD t 0:=by
    unfold dO;rw[zN (by omega),bh,hu,Int.toNat_natCast,dY (λe=>hti e.symm)]
   have PZ:nH T {b3 with far:=b3.far.set i (max (b3.far.getD i 0) (wd+b3.far.getD t 0))}:=λj hj=>by
    have Qr:i≠j:=λe=>by subst e;have:b3.state.getD i 0=2:=hj;omega
    exact (PY j hj).same Dx (dY Qr)
   obtain⟨p1,p2,p3,p4,p5⟩:=ih.2 i (k+1) r _ b2 h yl hi Qa Nl PZ (λk' o9 ht=>by
    rcases zLg k' k with h3|h3
    . exact ((Xq.same jn (by rw[Ge,KX];omega)).same Dx (by show b3.far.getD i 0<=(b3.far.set i _).getD i 0;rw[l9];omega)) k' h3 ht
    . have:k'=k:=by omega
      subst this;refine⟨?_,λ_=>by rw[hu,Int.toNat_natCast];exact VX⟩;show dO T (b3.far.set i _) i k'<=(b3.far.set i _).getD i 0;rw[JV,l9];omega) (by
    rcases Int.le_total (wd+b3.far.getD t 0) (b.far.getD i 0) with h3|h3
    . refine ((Ur.same ye (by rw[KX];omega)).same jn (by rw[Ge,KX];omega)).same Dx ?_
      show (b3.far.set i _).getD i 0<=b3.far.getD i 0;rw[l9];omega
    refine .inr ⟨k,hk,by omega,?_,λ_=>by rw[hu,Int.toNat_natCast];exact VX⟩
    show (b3.far.set i _).getD i 0<=dO T (b3.far.set i _) i k;rw[JV,l9];omega) hr
   refine⟨p1,p2,λj hj Jn=> ?_,p4,p5⟩;obtain⟨e1,e2⟩:=A2 j (by rw[qx];exact Jn);obtain⟨e3,e4⟩:=p3 j hj (by show b3.state.getD j 0≠0;rw[e1,qx];exact Jn);have e5:(b3.far.set i (max (b3.far.getD i 0) (wd+b3.far.getD t 0))).getD j 0=b3.far.getD j 0:=dY (λe=>hj e.symm);exact⟨by rw[e3];show b3.state.getD j 0=_;rw[e1,qx],by rw[e4];show (b3.far.set i (max (b3.far.getD i 0) (wd+b3.far.getD t 0))).getD j 0=_;rw[e5,e2,P4 j hj]⟩
end Go.Proofs.YtghpmhllpaheiaaGreatDoor
namespace Go.Proofs.YtghpmhllpaheiaaGreatDoor
variable {T:iP} {f n i k m:Nat} {a b far F:List Int}
def lY (T:iP) (far:List Int):Nat->Nat->Int->Int
 | 0,_,Hw=>Hw
 | k+1,i,Hw=>lY T far k (i+1) (if 0<i/\T.rU.getD i 0<0 then Hw else max Hw (far.getD i 0))
theorem zat :∀ (k i:Nat) (Hw:Int) (b:jI) (Hj:Int) (b2:jI),bZ T f k i Hw b=some (Hj,b2)->(∀ j,b.state.getD j 0≠1)->b2.round=true->b.round=true\/CycO T
 | 0,i,Hw,b,Hj,b2,h,_,hr=>by rw[bZ] at h;cases h;exact .inl hr
 | k+1,i,Hw,b,Hj,b2,h,h1,hr=>by
  rw[bZ] at h;split at h
  . exact zat k _ _ _ _ _ h h1 hr
  split at h
  . cases h
  rename_i b3 e
  split at e
  . have h3:∀ j,b3.state.getD j 0≠1:=λj hj=>h1 j ((zbc f).1 _ _ _ e j hj)
    rcases zat k _ _ _ _ _ h h3 hr with h5|h5
    . exact (walk_cyc f).1 _ _ _ e (λj hj=>absurd hj (h1 j)) h5
    exact .inr h5
  cases e
  exact zat k _ _ _ _ _ h h1 hr
theorem zaR (hc:∀ i k,qH T i k<(n:Int)) (hw:∀ i k,0<=qH T i k->1<=yU T k):∀ (k i:Nat) (Hw:Int) (b:jI) (Hj:Int) (b2:jI),bZ T f k i Hw b=some (Hj,b2)->i+k=n->WI n b->(∀ j,b.state.getD j 0≠1)->nH T b->b2.round=false->
 WI n b2/\nH T b2/\qK b b2/\(∀ j,i<=j->j<n->(0<j/\T.rU.getD j 0<0)\/b2.state.getD j 0=2)/\Hj=lY T b2.far k i Hw
 | 0,i,Hw,b,Hj,b2,h,hi,hb,h1,ha,hr=>by
  rw[bZ] at h;cases h;exact⟨hb,ha,λj hj=>⟨hj,rfl⟩,λj h3 h4=>by omega,rfl⟩
 | k+1,i,Hw,b,Hj,b2,h,hi,hb,h1,ha,hr=>by
  rw[bZ] at h;split at h
  . rename_i x8
    obtain⟨q1,q2,q3,q4,q5⟩:=zaR hc hw k (i+1) Hw b Hj b2 h (by omega) hb h1 ha hr;refine⟨q1,q2,q3,λj h3 h4=> ?_,?_⟩
    . by_cases e:j=i
      . subst e;exact .inl x8
      exact q4 j (by omega) h4
    rw[lY,zP x8];exact q5
  rename_i x8
  split at h
  . cases h
  rename_i b3 e
  have OE:b3.round=false:=by
   cases hx:b3.round with
   | false=>rfl
   | true=>
    have h9:∀ (k i:Nat) (Hw:Int) (b:jI) (Hj:Int) (b2:jI),bZ T f k i Hw b=some (Hj,b2)->b.round=true->b2.round=true:=by
     intro k
     induction k with
     | zero=>intro i Hw b Hj b2 h hb;rw[bZ] at h;cases h;exact hb
     | succ k ih=>
      intro i Hw b Hj b2 h hb;rw[bZ] at h;split at h
      . exact ih _ _ _ _ _ h hb
      split at h
      . cases h
      rename_i b4 e4
      refine ih _ _ _ _ _ h ?_;split at e4
      . exact (yT f).1 _ _ _ e4 hb
      cases e4;exact hb
    rw[h9 _ _ _ _ _ _ h hx] at hr;cases hr
  have Pw:WI n b3/\nH T b3/\qK b b3/\b3.state.getD i 0=2/\∀ j,b3.state.getD j 0≠1:=by
   split at e
   . rename_i h0
     obtain⟨p1,p2,p3,p4⟩:=(walk_done hc hw f).1 i b b3 e (by omega) hb h0 ha OE;exact⟨p1,p2,λj hj=>by obtain⟨e1,e2⟩:=p3 j (by omega);exact⟨by omega,e2⟩,p4,λj hj=>h1 j ((zbc f).1 _ _ _ e j hj)⟩
   rename_i h0
   cases e;refine⟨hb,ha,λj hj=>⟨hj,rfl⟩,?_,h1⟩
   rcases hb.st i with h3|h3|h3
   . exact absurd h3 h0
   . exact absurd h3 (h1 i)
   exact h3
  obtain⟨Qi,PY,jn,NF,Nl⟩:=Pw;obtain⟨q1,q2,q3,q4,q5⟩:=zaR hc hw k (i+1) _ b3 Hj b2 h (by omega) Qi Nl PY hr;obtain⟨e1,e2⟩:=q3 i NF;refine⟨q1,q2,λj hj=> ?_,λj h3 h4=> ?_,?_⟩
  . obtain⟨e3,e4⟩:=jn j hj
    obtain⟨e5,e6⟩:=q3 j e3;exact⟨e5,by rw[e6,e4]⟩
  . by_cases e:j=i
    . subst e;exact .inr e1
    exact q4 j (by omega) h4
  rw[lY,zN x8,e2];exact q5
def mL (T:iP) (far:List Int) (i k:Nat):List Int:=
 if qH T i k<0 then far else if far.getD i 0<dO T far i k then far.set i (dO T far i k) else far
def mR (T:iP) (i:Nat):Nat->List Int->List Int
 | 0,far=>far
 | k+1,far=>mL T (mR T i k far) i k
def dV (T:iP) (m:Nat):Nat->List Int->List Int
 | 0,far=>far
 | i+1,far=>mR T i m (dV T m i far)
def xA (T:iP) (n m:Nat):Nat->List Int->Int
 | 0,_=> -1
 | r+1,far=>if dV T m n far=far then lY T far n 0 0+1 else xA T n m r (dV T m n far)
def qI (a b:List Int):Prop:=a.length=b.length/\∀ j,a.getD j 0<=b.getD j 0
theorem qI.refl (a:List Int):qI a a:=⟨rfl,λ_=>Int.le_refl _⟩
theorem qI.trans {c:List Int} (h:qI a b) (k:qI b c):qI a c:=⟨h.1.trans k.1,λj=>Int.le_trans (h.2 j) (k.2 j)⟩
theorem qI.anti (h:qI a b) (k:qI b a):a=b:=by
 apply List.ext_getElem h.1;intro j h1 h2;have e1:=h.2 j;have e2:=k.2 j;rw[zLf,zLf,zLe h1,zLe h2] at e1 e2;simp only[Option.getD_some] at e1 e2;omega
theorem qI.set {x:Int} (h:a.getD i 0<=x):qI a (a.set i x):=by
 refine⟨by simp,λj=> ?_⟩;by_cases Qr:i=j
 . subst Qr
   rcases zLg i a.length with hl|hl
   . rw[jW hl];exact h
   rw[List.set_eq_of_length_le hl];exact Int.le_refl _
 rw[dY Qr];exact Int.le_refl _
theorem ze3 (T:iP) (far:List Int) (i k:Nat):qI far (mL T far i k):=by
 unfold mL;split
 . exact qI.refl _
 split
 . exact qI.set (by omega)
 exact qI.refl _
theorem zdm (T:iP) (i:Nat):∀ (k:Nat) (far:List Int),qI far (mR T i k far)
 | 0,far=>qI.refl _
 | k+1,far=>(zdm T i k far).trans (ze3 T _ i k)
theorem ze5 (T:iP) (i:Nat) (far:List Int) (h:k<=m):qI (mR T i k far) (mR T i m far):=by
 induction h with
 | refl=>exact qI.refl _
 | step _ ih=>exact ih.trans (ze3 T _ i _)
theorem oW (T:iP) (m:Nat):∀ (i:Nat) (far:List Int),qI far (dV T m i far)
 | 0,far=>qI.refl _
 | i+1,far=>(oW T m i far).trans (zdm T i m _)
theorem zfZ (T:iP) (m:Nat) (far:List Int) (h:i<=n):qI (dV T m i far) (dV T m n far):=by
 induction h with
 | refl=>exact qI.refl _
 | step _ ih=>exact ih.trans (zdm T _ m _)
theorem zfa (hi:i<n) (hl:far.length=n) (hk:k<m) (ht:0<=qH T i k):∃ Y,qI far Y/\qI Y (dV T m n far)/\dO T Y i k<=(dV T m n far).getD i 0:=by
 have h1:=(oW T m i far).trans (zdm T i k (dV T m i far));have h2:qI (mR T i (k+1) (dV T m i far)) (dV T m n far):=(ze5 T i _ (by omega:k+1<=m)).trans (zfZ T m far (by omega:i+1<=n));have h3:qI (mR T i k (dV T m i far)) (mR T i (k+1) (dV T m i far)):=ze5 T i _ (by omega);refine⟨mR T i k (dV T m i far),h1,h3.trans h2,?_⟩;refine Int.le_trans ?_ (h2.2 i);show _<=(mL T (mR T i k (dV T m i far)) i k).getD i 0
 have Hg:i<(mR T i k (dV T m i far)).length:=by rw[<-h1.1,hl];exact hi
 unfold mL;rw[zN (by omega)];split
 . rw[jW Hg];exact Int.le_refl _
 omega
theorem fix_of (hf:dV T m n far=far) (hl:far.length=n) (hi:i<n) (hk:k<m) (ht:0<=qH T i k):dO T far i k<=far.getD i 0:=by
 obtain⟨Y,h1,h2,h3⟩:=zfa (T:=T) hi hl hk ht;rw[hf] at h2 h3;rw[qI.anti h1 h2];rw[<-qI.anti h1 h2] at h3 ⊢;exact h3
theorem ref_cyc (hn:T.gO.length=n) (hm:∀ r∈T.gO,r.length<=m) (hw:∀ i k,0<=qH T i k->1<=yU T k) (hcy:CycO T):∀ (r:Nat) (far:List Int),far.length=n->xA T n m r far= -1
 | 0,far,_=>rfl
 | r+1,far,hl=>by
  rw[xA,zN]
  . exact ref_cyc hn hm hw hcy r _ (by rw[<-(oW T m n far).1];exact hl)
  intro hf
  have he:∀ i j,zdz T i j->far.getD j 0<far.getD i 0:=λi j ⟨k,hk,ht,hr⟩=>by
   have hi:i<T.gO.length:=by
    rcases zLg i T.gO.length with h|h
    . exact h
    rw[zLf,zGn h] at hk;simp at hk
   have UI:k<m:=zLd hk (hm _ (by rw[zLf,zLe hi];exact List.getElem_mem _));have h1:=fix_of hf hl (i:=i) (k:=k) (by omega) UI (by omega);have h2:=hw i k (by omega);unfold dO at h1;rw[ht,zN (by omega),Int.toNat_natCast] at h1;omega
  have ht:∀ i j,Relation.TransGen (zdz T) i j->far.getD j 0<far.getD i 0:=λi j h=>by
   induction h with
   | single h=>exact he _ _ h
   | tail _ h ih=>have:=he _ _ h;omega
  obtain⟨j,hj⟩:=hcy;have:=ht j j hj;omega
theorem zaD {α:Type} {p q:α->Bool} (xq:∀ x,p x=true->q x=true):∀ (l:List α) (a:α),a∈l->q a=true->p a=false->l.countP p<l.countP q
 | [],a,h,_,_=>by cases h
 | x::l,a,h,hq,hp=>by
  have Qt:l.countP p<=l.countP q:=List.countP_mono_left (λy _=>xq y);rw[List.countP_cons,List.countP_cons]
  rcases List.mem_cons.1 h with rfl|h
  . rw[hq,hp];simp;omega
  have:=zaD xq l a h hq hp
  have h2:=xq x;cases hx:p x
  . simp;omega
  rw[h2 hx];simp;omega
def rankO (F:List Int) (n i:Nat):Nat:=(List.range n).countP (λj=>decide (F.getD j 0<F.getD i 0))
theorem rank_lt {j:Nat} (hj:j<n) (h:F.getD j 0<F.getD i 0):rankO F n j<rankO F n i:=
 zaD (λx hx=>by simp only[decide_eq_true_eq] at hx ⊢;omega) _ j (List.mem_range.2 hj) (by simpa using h) (by simp)
theorem rank_le (hi:i<n):rankO F n i<n:=by
 have:=zaD (p:=λj=>decide (F.getD j 0<F.getD i 0)) (q:=λ_=>true) (λ_ _=>rfl) (List.range n) i (List.mem_range.2 hi) rfl (by simp);have h2:(List.range n).countP (λ_=>true)<=(List.range n).length:=List.countP_le_length;rw[List.length_range] at h2;unfold rankO;omega
structure FixO (T:iP) (n m:Nat) (F:List Int):Prop where
 len:F.length=n
 nn:∀ j,0<=F.getD j 0
 up:∀ i k,i<n->k<m->0<=qH T i k->dO T F i k<=F.getD i 0
 att:∀ i,i<n->F.getD i 0<=0\/∃ k,k<m/\0<=qH T i k/\F.getD i 0<=dO T F i k
theorem dO_mono (h:qI a b) (i k:Nat):dO T a i k<=dO T b i k:=by
 unfold dO;split
 . exact Int.le_refl _
 have:=h.2 (qH T i k).toNat;omega
theorem relax_top (hF:FixO T n m F) (h:qI far F) (hi:i<n) (hk:k<m):qI (mL T far i k) F:=by
 unfold mL;split
 . exact h
 split
 . refine⟨by simp[h.1],λj=> ?_⟩
   by_cases Qr:i=j
   . subst Qr
     rw[jW (by rw[h.1,hF.len];exact hi)];exact Int.le_trans (dO_mono h i k) (hF.up i k hi hk (by omega))
   rw[dY Qr];exact h.2 j
 exact h
theorem row_top (hF:FixO T n m F) (hi:i<n):∀ (k:Nat) (far:List Int),k<=m->qI far F->qI (mR T i k far) F
 | 0,far,_,h=>h
 | k+1,far,hk,h=>relax_top hF (row_top hF hi k far (by omega) h) hi (by omega)
theorem vW (hF:FixO T n m F):∀ (i:Nat) (far:List Int),i<=n->qI far F->qI (dV T m i far) F
 | 0,far,_,h=>h
 | i+1,far,hi,h=>row_top hF (by omega) m _ (zR _) (vW hF i far (by omega) h)
def UpTo (F far:List Int) (n r:Nat):Prop:=∀ i,i<n->rankO F n i<r->far.getD i 0=F.getD i 0
theorem zfb (hF:FixO T n m F) (hc:∀ i k,qH T i k<(n:Int)) (hw:∀ i k,0<=qH T i k->1<=yU T k) (h:qI far F) (h0:∀ j,0<=far.getD j 0) {r:Nat} (hr:UpTo F far n r):UpTo F (dV T m n far) n (r+1):=by
 intro i hi hri;have ht:=vW hF n far (zR _) h;have Qt:=oW T m n far;apply Int.le_antisymm (ht.2 i)
 rcases hF.att i hi with h1|⟨k,hk,XC,h1⟩
 . have:=h0 i
   have:=Qt.2 i;omega
 obtain⟨Y,y1,y2,y3⟩:=zfa (T:=T) hi (h.1.trans hF.len) hk XC
 refine Int.le_trans h1 (Int.le_trans ?_ y3);unfold dO;split
 . exact Int.le_refl _
 rename_i JZ
 have Xe:=hw i k XC;have XA:=hc i k;obtain⟨t,Yv⟩:=Int.eq_ofNat_of_zero_le XC;have ue:t<n:=by omega
 have h3:F.getD t 0<F.getD i 0:=by
  have:=hF.up i k hi hk XC;unfold dO at this;rw[zN JZ,Yv,Int.toNat_natCast] at this;omega
 have h4:=rank_lt (F:=F) ue h3;have h5:=hr t ue (by omega);have h6:=y1.2 t;rw[Yv,Int.toNat_natCast];omega
theorem up_all (hF:FixO T n m F) (h:qI far F) (hr:UpTo F far n n):far=F:=by
 apply h.anti;refine⟨h.1.symm,λj=> ?_⟩
 rcases zLg j n with hj|hj
 . rw[hr j hj (rank_le hj)];exact Int.le_refl _
 rw[zLf,zLf,zGn (by rw[hF.len];exact hj),zGn (by rw[h.1,hF.len];exact hj)]
 exact Int.le_refl _
theorem ref_fix (hF:FixO T n m F) (hc:∀ i k,qH T i k<(n:Int)) (hw:∀ i k,0<=qH T i k->1<=yU T k):∀ (e r:Nat) (far:List Int),qI far F->(∀ j,0<=far.getD j 0)->UpTo F far n (n-e)->e<=n->e+1<=r->xA T n m r far=lY T F n 0 0+1:=by
 intro e
 induction e with
 | zero=>
  intro r far h h0 hu he hr;obtain⟨r,rfl⟩:∃ q,r=q+1:=⟨r-1,by omega⟩;have:=up_all hF h hu;subst this;rw[xA,zP];exact (vW hF n far (zR _) (qI.refl _)).anti (oW T m n far)
 | succ e ih=>
  intro r far h h0 hu he hr;obtain⟨r,rfl⟩:∃ q,r=q+1:=⟨r-1,by omega⟩;have hs:=vW hF n far (zR _) h;have Cs:UpTo F (dV T m n far) n (n-(e+1)+1):=zfb hF hc hw h h0 hu;rw[xA];split
  . rename_i hf
    have ha:∀ q,UpTo F far n q:=λq=>by
     induction q with
     | zero=>intro i _ hi;omega
     | succ q ihq=>have:=zfb hF hc hw h h0 ihq;rw[hf] at this;exact this
    rw[up_all hF h (ha n)]
  exact ih r _ hs (λj=>Int.le_trans (h0 j) ((oW T m n far).2 j)) (by rw[show n-e=n-(e+1)+1 by omega];exact Cs) (by omega) (by omega)
theorem oA (n j:Nat):(List.replicate n (0:Int)).getD j 0=0:=by
 rw[zLf,List.getElem?_replicate];split<;>rfl
theorem zfn {b:Int} (hn:T.gO.length=n) (hm:∀ r∈T.gO,r.length=m) (hc:∀ i k,qH T i k<(n:Int)) (hw:∀ i k,0<=qH T i k->1<=yU T k) (hre:∀ j,0<j->j<n->∃ i k,i<j/\k<m/\qH T i k=(j:Int))
 (h:zcF f T=some b):xA T n m (n+2) (List.replicate n 0)=b:=by
 unfold zcF at h;split at h
 . cases h
 rename_i Hw b2 e
 injection h with h
 subst h;rw[hn] at e;have hW:WI n ⟨List.replicate n 0,List.replicate n 0,false⟩:=⟨by simp,by simp,λj=>.inl (oA n j),λj=>by show 0<=(List.replicate n (0:Int)).getD j 0;rw[oA];exact Int.le_refl _,λj _=>by show (List.replicate n (0:Int)).getD j 0<=0;rw[oA];exact Int.le_refl _⟩;have h1:∀ j,(⟨List.replicate n 0,List.replicate n 0,false⟩:jI).state.getD j 0≠1:=λj=>by show (List.replicate n (0:Int)).getD j 0≠1;rw[oA];decide
 cases hr:b2.round with
 | true=>
  rw[zP rfl]
  rcases zat n 0 0 _ _ _ e h1 hr with h2|h2
  . cases h2
  . exact ref_cyc hn (λr h=>Nat.le_of_eq (hm r h)) hw h2 _ _ (by simp)
 | false=>
  rw[zN (by decide)];obtain⟨q1,q2,q3,q4,q5⟩:=zaR hc hw n 0 0 _ _ _ e (by omega) hW h1 (λj hj=>by have:(List.replicate n (0:Int)).getD j 0=2:=hj;rw[oA] at this;cases this) hr;have Hg:∀ i,i<n->(T.gO.getD i []).length=m:=λi hi=>hm _ (by rw[zLf,zLe (by omega)];exact List.getElem_mem _);have QN:∀ j,j<n->b2.state.getD j 0=2:=by
   intro j
   induction j using Nat.strongRecOn with
   | _ j ih=>
    intro hj
    rcases q4 j (zZ _) hj with⟨h2,h3⟩|h2
    . obtain⟨i,k,h4,h5,h6⟩:=hre j h2 hj
      have hd:=(q2 i (ih i h4 (by omega))).1 k (by rw[Hg i (by omega)];exact h5) (by omega);have:=hd.2 (by rw[h6];unfold ruO;rw[Int.toNat_natCast];exact h3);rwa [h6,Int.toNat_natCast] at this
    exact h2
  have hF:FixO T n m b2.far:=⟨q1.lf,q1.nn,λi k hi hk ht=>((q2 i (QN i hi)).1 k (by rw[Hg i hi];exact hk) ht).1,λi hi=>by
   rcases (q2 i (QN i hi)).2 with h2|⟨k,h2,h3,h4,_⟩
   . exact .inl h2
   exact .inr ⟨k,by rw[Hg i hi] at h2;exact h2,h3,h4⟩⟩
  rw[q5];refine ref_fix hF hc hw n (n+2) _ ⟨by simp[q1.lf],λj=>by rw[oA];exact q1.nn j⟩ (λj=>by rw[oA];exact Int.le_refl _) (λi _ h2=>by omega) (zR _) (by omega)
end Go.Proofs.YtghpmhllpaheiaaGreatDoor
namespace Go.Proofs.YtghpmhllpaheiaaGreatDoor
open Go.RowKit Go.Lib
mutual
def lS:aJ->Nat->Nat
 | .cL _,_=>2
 | .row l,n=>qL l n
 | .either a b,n=>lS a n+(if n+eU a<=65 then lS b (n+eU a) else 0)+4
 | .rep t _ _,n=>lS t n+5
def qL:List aJ->Nat->Nat
 | [],_=>0
 | t::l,n=>lS t n+(if n+eU t<=65 then qL l (n+eU t) else 0)
end
mutual
theorem lI:∀ (t:aJ) (n:Nat),n+eU t<=65->lS t n=jL t
 | .cL c,n,h=>by rw[lS,jL]
 | .row l,n,h=>by
  rw[eU] at h;rw[lS,jL];exact zcG l n h
 | .either a b,n,h=>by
  rw[eU] at h;rw[lS,jL,zP (by omega),lI a n (by omega),lI b _ (by omega)]
 | .rep t m o,n,h=>by
  rw[eU] at h;rw[lS,jL,lI t n h]
theorem zcG:∀ (l:List aJ) (n:Nat),n+iE l<=65->qL l n=oH l
 | [],n,h=>by rw[qL,oH]
 | t::l,n,h=>by
  rw[iE] at h;rw[qL,oH,zP (by omega),lI t n (by omega),zcG l _ (by omega)]
end
mutual
theorem zaO:∀ (t:aJ) (i p:Nat) (s s':bA),eD t i s=some (p,s')->s.cL.length<=65->s'.cL.length<=65
 | .cL c,i,p,s,s',h,hs=>by
  rw[eD] at h;split at h
  . cases h
  . rename_i hc
    cases h;simp only[zLn,List.length_cons,List.length_nil];omega
 | .row l,i,p,s,s',h,hs=>by
  rw[eD] at h;exact layR_le l i p s s' h hs
 | .either a b,i,p,s,s',h,hs=>by
  rw[eD] at h;split at h
  . cases h
  . rename_i p1 s2 e1
    split at h
    . cases h
    . rename_i q s3 e2
      cases h;have h3:=zaO b _ _ _ _ e2 (zaO a _ _ _ _ e1 hs);exact h3
 | .rep t m o,i,p,s,s',h,hs=>by
  rw[eD] at h;split at h
  . cases h
  rename_i p1 s2 e1
  have h1:=zaO t _ _ _ _ e1 hs;cases h;cases o<;>by_cases hm:m=0<;>simp only[hm,if_true,if_false,Bool.false_eq_true]<;>exact h1
theorem layR_le:∀ (l:List aJ) (i p:Nat) (s s':bA),mY l i s=some (p,s')->s.cL.length<=65->s'.cL.length<=65
 | [],i,p,s,s',h,hs=>by
  rw[mY] at h;cases h;exact hs
 | t::l,i,p,s,s',h,hs=>by
  rw[mY] at h;split at h
  . cases h
  rename_i q s2 e1
  exact layR_le l _ _ _ _ h (zaO t _ _ _ _ e1 hs)
end
theorem zbT {t:aJ} {i p:Nat} {s s':bA} (h:eD t i s=some (p,s')) (hs:s.cL.length<=65):s.cL.length+eU t<=65/\s'.cL.length=s.cL.length+eU t/\lS t s.cL.length=jL t:=by
 have h1:=nR _ _ _ _ _ h;have h2:=zaO _ _ _ _ _ h hs;have h3:s'.cL.length=s.cL.length+eU t:=by rw[h1,zLn,nO]
 exact⟨by omega,h3,lI t _ (by omega)⟩
theorem layT_none {t:aJ} {i:Nat} {s:bA} (hs:s.cL.length<=65) (h:65<s.cL.length+eU t):eD t i s=none:=by
 cases hx:eD t i s with
 | none=>rfl
 | some ps=>
  obtain⟨p,s2⟩:=ps;have:=(zbT hx hs).1;omega
theorem zcI (t:aJ):∀ (l:List aJ) (n:Nat),n<=65->qL (l++[t]) n=if n+iE l<=65 then oH l+lS t (n+iE l) else qL l n
 | [],n,hn=>by
  rw[List.nil_append,iE,oH,Nat.add_zero,Nat.zero_add,zP hn,qL,qL,ite_self,Nat.add_zero]
 | u::l,n,hn=>by
  rw[List.cons_append,qL];by_cases h:n+eU u<=65
  . rw[zP h,zcI t l _ h,iE,oH,qL,zP h,lI u n h,<-Nat.add_assoc n]
    split
    . omega
    rfl
  rw[zN h,iE,zN (by omega),qL,zN h]
theorem zcH {K:Nat}:∀ (l:List aJ),(∀ x∈l,jL x<=K*eU x/\∀ n,n<=65->lS x n<=K*(66-n))->∀ n,n<=65->qL l n<=K*(66-n)
 | [],_,n,_=>by rw[qL];exact zZ _
 | t::l,h,n,hn=>by
  obtain⟨h1,h2⟩:=h t List.mem_cons_self;rw[qL];split
  . rename_i Qt
    have h3:=zcH l (λx hx=>h x (List.mem_cons_of_mem _ hx)) _ Qt;rw[lI t n Qt];have e:K*(66-n)=K*eU t+K*(66-(n+eU t)):=by rw[<-Nat.mul_add];congr 1;omega
    omega
  exact h2 n hn
end Go.Proofs.YtghpmhllpaheiaaGreatDoor
namespace Go.Proofs.YtghpmhllpaheiaaGreatDoor
open Go.RowKit Go.Lib
variable {i f:Nat} {sT:List ByteArray}
inductive oB where
 | ok (s:bA) (L:gK)
 | err (e i k:Nat)
inductive pY (f:Nat) (sT:List ByteArray) (R:oB):Nat->bA->gK->Prop where
 | done {i:Nat} {s:bA} {L:gK} (hi:i=sT.length) (h:R=.ok s L):pY f sT R i s L
 | parse {i:Nat} {s:bA} {L:gK} {str:ByteArray} {er:jU} (hs:sT[i]?=some str) (hf:kH str (4*str.size+10) 0 0≠ .error (0,0)) (he:fZ str=.error er) (h:R=.err er.1 i er.2):pY f sT R i s L
 | full {i:Nat} {s:bA} {L:gK} {str:ByteArray} {t:aJ} (hs:sT[i]?=some str) (ht:fZ str=.ok t) (hl:eD t s.kN.length (s.push ⟨[],0,false⟩)=none)
  (Nn:s.cL.length<=65/\∀ k,(bC (s.push ⟨[],0,false⟩).kN k).length+lS t s.cL.length<=1000000) (h:R=.err 6 i 0):pY f sT R i s L
 | next {i:Nat} {s:bA} {L:gK} {str:ByteArray} {t:aJ} {e:Nat} {s1:bA} {l:List Nat} {L2:gK} (hs:sT[i]?=some str) (ht:fZ str=.ok t) (hl:eD t s.kN.length (s.push ⟨[],0,false⟩)=some (e,s1))
  (hd:uC (s1.fI e).kN f s.kN.length []=some l)
  (hp:eV (s1.fI e).kN f i (s1.bE.drop s.bE.length) {L with cL:=s1.cL,fO:=L.fO.modify 0 (aW.or · (aO (s1.fI e).kN l))}=some L2)
  (hm:mS (s1.fI e)) (h:pY f sT R (i+1) (s1.fI e) L2):pY f sT R i s L
theorem kI {α:Type} {l:List α} {x:α} (h:l[i]?=some x):i<l.length:=(List.getElem?_eq_some_iff.1 h).1
def LayG (f:Nat) (sT:List ByteArray) (R:oB) (i:Nat) (s:bA) (L:gK) (str:ByteArray):Prop:=
 (∃ er:jU,kH str (4*str.size+10) 0 0≠ .error (0,0)/\fZ str=.error er/\R=.err er.1 i er.2)\/
 ∃ t,fZ str=.ok t/\((eD t s.kN.length (s.push ⟨[],0,false⟩)=none/\(s.cL.length<=65/\∀ k,(bC (s.push ⟨[],0,false⟩).kN k).length+lS t s.cL.length<=1000000)/\R=.err 6 i 0)\/
  ∃ e s1 l L2,eD t s.kN.length (s.push ⟨[],0,false⟩)=some (e,s1)/\uC (s1.fI e).kN f s.kN.length []=some l/\
   eV (s1.fI e).kN f i (s1.bE.drop s.bE.length) {L with cL:=s1.cL,fO:=L.fO.modify 0 (aW.or · (aO (s1.fI e).kN l))}=some L2/\mS (s1.fI e)/\pY f sT R (i+1) (s1.fI e) L2)
theorem pY.get {R:oB} {s:bA} {L:gK} (h:pY f sT R i s L) {str:ByteArray} (hs:sT[i]?=some str):LayG f sT R i s L str:=by
 cases h with
 | done hi h=>have:=kI hs;omega
 | parse VQ hf he h=>
  rw[hs] at VQ;cases VQ;exact .inl ⟨_,hf,he,h⟩
 | full VQ ht hl Nn h=>
  rw[hs] at VQ;cases VQ;exact .inr ⟨_,ht,.inl ⟨hl,Nn,h⟩⟩
 | next VQ ht hl hd hp hm h=>
  rw[hs] at VQ;cases VQ;exact .inr ⟨_,ht,.inr ⟨_,_,_,_,hl,hd,hp,hm,h⟩⟩
theorem pY.end' {R:oB} {s:bA} {L:gK} (h:pY f sT R i s L) (hi:i=sT.length):R=.ok s L:=by
 cases h with
 | done _ h=>exact h
 | parse hs=>have:=kI hs;omega
 | full hs=>have:=kI hs;omega
 | next hs=>have:=kI hs;omega
theorem zcb {R:oB}:∀ (ts:List aJ) (i:Nat) (s:bA) (L:gK) (s2:bA) (L2:gK),fX f ts i s L=some (s2,L2)->
 (∀ (j:Nat) (t:aJ),ts[j]?=some t->∃ str,sT[i+j]?=some str/\fZ str=.ok t)->mS s2->pY f sT R (i+ts.length) s2 L2->pY f sT R i s L
 | [],i,s,L,s2,L2,h,_,_,hv=>by
  rw[fX] at h;cases h;exact hv
 | t::ts,i,s,L,s2,L2,h,hp,hm,hv=>by
  rw[fX] at h;split at h
  . cases h
  rename_i e s1 h1
  split at h
  . cases h
  rename_i l h2
  split at h
  . cases h
  rename_i L3 h3
  obtain⟨str,hs,ht⟩:=hp 0 t rfl;have h4:pY f sT R (i+1) (s1.fI e) L3:=zcb ts (i+1) _ _ _ _ h (λj u hj=>by
   obtain⟨str2,h5,h6⟩:=hp (j+1) u hj;exact⟨str2,by rw[Nat.add_assoc,Nat.add_comm 1 j];exact h5,h6⟩) hm (by rw[Nat.add_assoc,Nat.add_comm 1 ts.length];exact hv)
  exact .next hs ht h1 h2 h3 (hm.of_later (zai _ _ _ _ _ _ h)) h4
end Go.Proofs.YtghpmhllpaheiaaGreatDoor
namespace Go.Proofs.YtghpmhllpaheiaaGreatDoor
open Go.RowKit Go.Lib
variable {k:Nat}
def copyT (t:aJ) (m:Nat) (n:Int):aJ:=
 if n<0 then (if m=0 then .rep t 0 false else .row (List.replicate (m-1) t++[.rep t 1 false]))
 else .row (List.replicate m t++List.replicate (n.toNat-m) (.rep t 0 true))
def GrO (B pb:Nat) (s:ByteArray) (x:Pr) (c:Nat) (P:List Nd->Nat->Prop) (lv:Value) (w:World) (e:Ending) (w':World):Prop:=
 ∃ (k:Nat) (N:List Nd) (QU:Value),e=.returned (.int .i64 k)/\eW B pb s {x with ns:=N} QU w'/\PK pb lv QU w w'/\x.ns<+:N/\N.length<=x.ns.length+c/\k<N.length/\P N k
structure CpS (B pb:Nat) (s:ByteArray) (x:Pr) (lv:Value) (w:World) (a:Nat) (t:aJ) (c:Nat) (N:List Nd) (QU:Value) (wr:World):Prop where
 pr:eW B pb s {x with ns:=N} QU wr
 pk:PK pb lv QU w wr
 pre:x.ns<+:N
 len:N.length<=x.ns.length+c
 nt:cO N a t
section
variable {B pb:Nat} {s:ByteArray} {x:Pr} {lv QU:Value} {w wr:World} {a c:Nat} {t:aJ} {N:List Nd}
theorem cO.lt {t:aJ} (h:cO N k t):k<N.length:=by obtain⟨d,hd⟩:=h.get;exact (List.getElem?_eq_some_iff.1 hd).1
theorem kD.lt {l:List aJ} (h:kD N k l):k<N.length:=by obtain⟨d,hd⟩:=h.get;exact (List.getElem?_eq_some_iff.1 hd).1
theorem CpS.node (h:CpS B pb s x lv w a t c N QU wr) (hc:x.ns.length+c<=1000000) (k p q:Nat) (hk:k<=6) (hp:2<=k->p<N.length) (hq:2<=k->k<=3->q<N.length):
 Calls Tryz.prog 151 #[bJ pb,.agg #[.int .i64 k,.slice none 0 0,.int .i64 p,.int .i64 q,.int .i64 0]] wr (λe w'=>e=.returned (.int .i64 N.length)/\∃ Ky,CpS B pb s x lv w a t (c+1) (N++[kY N k (.slice none 0 0) [] p q]) Ky w'):=by
 have hl:=h.len;refine (kZ h.pr k p q hk hp hq (by show N.length<=_;omega)).mono ?_;rintro e w' ⟨Ky,rfl,h1,h2⟩;exact⟨rfl,Ky,h1,h.pk.trans h2,h.pre.trans (fE _ _),by rw[zLn,List.length_singleton];omega,h.nt.mono (fE _ _)⟩
theorem CpS.o (h:CpS B pb s x lv w a t c N QU wr) {d:Nat} {T:aJ} (hd:c<=d) (hk:cO N k T):GrO B pb s x d (λN k=>cO N k T) lv w (.returned (.int .i64 k)) wr:=
 ⟨k,N,QU,rfl,h.pr,h.pk,h.pre,by have:=h.len;omega,hk.lt,hk⟩
end
theorem zfv (B pb:Nat) (s:ByteArray) (x:Pr) (lv:Value) (w:World) (h:eW B pb s x lv w) (a:Nat) (t:aJ) (ht:cO x.ns a t) (m:Nat) (n:Int) (hm:m<=8) (hn:n= -2\/(m:Int)<=n/\n<=8) (hl:x.ns.length<=900000):
 Calls Tryz.prog 177 #[bJ pb,.int .i64 a,.int .i64 m,.int .i64 n] w (GrO B pb s x 17 (λN k=>cO N k (copyT t m n)) lv w):=by
 have C0:CpS B pb s x lv w a t 0 x.ns lv w:=⟨h,PK.refl _ _ _,List.prefix_refl _,zR _,ht⟩;have HM:=zh (zAi hm (zAi hn hl));have K0:=zh (C0.node (by omega) 0 0 0 (by omega) (by omega) (by omega));clear C0 h ht hm hn hl;unfold bJ at K0 ⊢;go_enter Tryz.func177,Tryz.ntmps177;go_upto_region 2 with (go_at_call 151;refine K0.o.mono ?_;rintro e' w1 ⟨rfl,Vh,ho⟩;have C1:=zh ho;clear ho)
 have R1:=zh (mk_nil x.ns);generalize Q5:x.ns++[kY x.ns 0 (.slice none 0 0) [] 0 0]=N1 at C1 R1;obtain⟨k1,Kl⟩:=zE (x.ns.length);rw[<-Kl] at R1 ⊢;clear Q5 Kl
 rcases HM.o.2.1 with rfl|hn
 . have Hn:zH ((-2:Int)<0):=zh (by decide)
   by_cases h0:m=0
   . subst h0
     have K:=zh (C1.o.node (by have:=HM.o;omega) 4 a 0 (by omega) (λ_=>C1.o.nt.lt) (λ_ _=>(by omega)));unfold bJ at K;go_wp2_with (first|(go_at_call 151;refine K.o.mono ?_;rintro e' w2 ⟨rfl,Ky,ho⟩;have C2:=zh ho;clear ho));go_ret;exact C2.o.o (by omega) (mk_star C1.o.pr.nb C1.o.nt)
   have z0:((m:Int)==0)=false:=by simp<;>omega
   go_wp2_with (fail);go_loopw [9,10] (λs9 Ka wr=>∃ (j k:Nat) (N:List Nd) (QU:Value),Ka=.int .i64 ((j:Int)+1)/\s9=.int .i64 k/\j+1<=m/\CpS B pb s x lv w a t (1+j) N QU wr/\kD N k (List.replicate j t)) (λ_ Ka _=>m-(RowKit.intOf Ka).toNat)
   case atStart=>exact⟨0,k1,N1,Vh,by simp,rfl,by omega,C1.o,R1.o⟩
   case round=>
    obtain⟨j,k,N,QU,rfl,rfl,hj,hc,hr⟩:=hrel;have CJ:=zh hc;have RJ:=zh hr;clear hc hr;by_cases Hf:j+1<m
    . have zl:(j:Int)+1<(m:Int):=by omega
      have Xe:IntKind.i64.wrap ((j:Int)+1+1)=(j:Int)+1+1:=zIn _ (by have:=HM.o;omega);have K:=zh (CJ.o.node (by have:=HM.o;omega) 2 k a (by omega) (λ_=>RJ.o.lt) (λ_ _=>CJ.o.nt.lt));unfold bJ at K;go_wp2_with (first|(go_at_call 151;refine K.o.mono ?_;rintro e' w2 ⟨rfl,Ky,ho⟩;have C2:=zh ho;clear ho));go_roundw
      case rel=>exact⟨j+1,N.length,_,Ky,by go_num,rfl,by omega,C2.o,by rw[List.replicate_succ'];exact zaX RJ.o CJ.o.nt⟩
      case measure=>(simp[zI]<;>omega)
    have GJ:j+1=m:=by omega
    have zl:¬ (j:Int)+1<(m:Int):=by omega
    have K:=zh (CJ.o.node (by have:=HM.o;omega) 5 a 0 (by omega) (λ_=>CJ.o.nt.lt) (λ_ _=>by omega));unfold bJ at K;go_upto_region 10 with (go_at_call 151;refine K.o.mono ?_;rintro e' w2 ⟨rfl,Ky,ho⟩;have C2:=zh ho;clear ho)
    have P2:=zh (mk_plus CJ.o.pr.nb CJ.o.nt);have R2:=zh (RJ.o.mono (fE N (kY N 5 (.slice none 0 0) [] a 0)));generalize CV:N++[kY N 5 (.slice none 0 0) [] a 0]=N2 at C2 P2 R2;generalize N.length=k2 at P2 ⊢;clear CV;have K:=zh (C2.o.node (by have:=HM.o;omega) 2 k k2 (by omega) (λ_=>R2.o.lt) (λ_ _=>P2.o.lt));unfold bJ at K;go_wp2_with (first|(go_at_call 151;refine K.o.mono ?_;rintro e' w3 ⟨rfl,JD,ho⟩;have C3:=zh ho;clear ho));go_ret
    refine C3.o.o (by have:=HM.o;omega) ?_;unfold copyT;rw[zP (by decide),zN h0,show m-1=j by omega];exact .row _ _ (zaX R2.o P2.o)
 obtain⟨nn,rfl⟩:∃ nn:Nat,n=(nn:Int):=⟨n.toNat,by omega⟩
 have zn:((nn:Int)== -2)=false:=by simp<;>omega
 go_wp2_with (fail);go_loopw [9,12] (λs9 s12 wr=>∃ (j k c:Nat) (N:List Nd) (QU:Value),s12=.int .i64 (j:Int)/\s9=.int .i64 k/\j<=nn/\c<=1+j+(j-m)/\CpS B pb s x lv w a t c N QU wr/\kD N k (List.replicate (min j m) t++List.replicate (j-m) (.rep t 0 true))) (λ_ s12 _=>nn-(RowKit.intOf s12).toNat)
 case atStart=>exact⟨0,k1,1,N1,Vh,rfl,rfl,by omega,by omega,C1.o,by simpa using R1.o⟩
 case round=>
  obtain⟨j,k,c,N,QU,rfl,rfl,hj,XA,hc,hr⟩:=hrel;have CJ:=zh hc;have RJ:=zh hr;clear hc hr;by_cases Hf:j<nn
  . have zl:(j:Int)<(nn:Int):=by omega
    have Xe:=zW j (by have:=HM.o;omega);by_cases SE:m<=j
    . have zm:(m:Int)<=(j:Int):=by omega
      have K:=zh (CJ.o.node (by have:=HM.o;omega) 6 a 0 (by omega) (λ_=>CJ.o.nt.lt) (λ_ _=>by omega));unfold bJ at K;go_upto_region 17 with (go_at_call 151;refine K.o.mono ?_;rintro e' w2 ⟨rfl,Ky,ho⟩;have C2:=zh ho;clear ho)
      have P2:=zh (mk_opt CJ.o.pr.nb CJ.o.nt);have R2:=zh (RJ.o.mono (fE N (kY N 6 (.slice none 0 0) [] a 0)));generalize CV:N++[kY N 6 (.slice none 0 0) [] a 0]=N2 at C2 P2 R2;generalize N.length=k2 at P2 ⊢;clear CV;have K:=zh (C2.o.node (by have:=HM.o;omega) 2 k k2 (by omega) (λ_=>R2.o.lt) (λ_ _=>P2.o.lt));unfold bJ at K;go_wp2_with (first|(go_at_call 151;refine K.o.mono ?_;rintro e' w3 ⟨rfl,JD,ho⟩;have C3:=zh ho;clear ho));go_roundw
      case rel=>exact⟨j+1,N2.length,_,_,JD,by go_num,rfl,by omega,by omega,C3.o,by rw[show min (j+1) m=min j m by omega,show j+1-m=(j-m)+1 by omega,List.replicate_succ',<-List.append_assoc];exact zaX R2.o P2.o⟩
      case measure=>(simp[zI]<;>omega)
    have zm:¬ (m:Int)<=(j:Int):=by omega
    have K:=zh (CJ.o.node (by have:=HM.o;omega) 2 k a (by omega) (λ_=>RJ.o.lt) (λ_ _=>CJ.o.nt.lt));unfold bJ at K;go_wp2_with (first|(go_at_call 151;refine K.o.mono ?_;rintro e' w2 ⟨rfl,Ky,ho⟩;have C2:=zh ho;clear ho));go_roundw
    case rel=>
     refine⟨j+1,N.length,_,_,Ky,by go_num,rfl,by omega,by omega,C2.o,?_⟩;have h:=RJ.o;rw[show min j m=j by omega,show j-m=0 by omega,List.replicate_zero,List.append_nil] at h;rw[show min (j+1) m=j+1 by omega,show j+1-m=0 by omega,List.replicate_zero,List.append_nil,List.replicate_succ'];exact zaX h CJ.o.nt
    case measure=>(simp[zI]<;>omega)
  have GJ:j=nn:=by omega
  have zl:¬ (j:Int)<(nn:Int):=by omega
  go_wp2_with (fail);go_ret;refine CJ.o.o (by have:=HM.o;omega) ?_;unfold copyT;rw[zN (by omega)];have h:=RJ.o;rw[show min j m=m by omega,GJ] at h;exact .row _ _ (by rw[Int.toNat_natCast];exact h)
end Go.Proofs.YtghpmhllpaheiaaGreatDoor
namespace Go.Proofs.YtghpmhllpaheiaaGreatDoor
open Go.RowKit Go.Lib
variable {s:ByteArray} {p q q2:Nat} {n:Int}
def yV (B pb:Nat) (s:ByteArray) (x:Pr) (c1 c2 d:Nat) (res:Except jU (aJ×Nat)) (lv:Value) (w:World) (e:Ending) (w':World):Prop:=
 ∃ (k:Nat) (y:Pr) (QU:Value),e=.returned (.int .i64 k)/\eW B pb s y QU w'/\PK pb lv QU w w'/\x.ns<+:y.ns/\k<y.ns.length/\x.aQ<=y.aQ/\
  match res with
  | .ok (T,q)=>y.e=x.e/\y.wh=x.wh/\y.aQ=q/\cO y.ns k T/\y.ns.length+20*x.aQ+d<=x.ns.length+20*y.aQ+c1
  | .error er=>y.e=er.1/\y.wh=er.2/\er.1≠0/\y.ns.length+20*x.aQ<=x.ns.length+20*y.aQ+c2
def CntR (s:ByteArray) (p:Nat) (v:Int) (q:Nat):Prop:=(v= -1/\∀ k,∃ er,dX s p k=.error er/\er=(4,k))\/∃ n:Nat,v=(n:Int)/\n<100/\∀ k,dX s p k=.ok (n,q)
def zcw (s:ByteArray) (q:Nat) (m n:Int) (q2:Nat):Prop:=
 (pO s q 44=false/\n=m/\q2=q)\/(pO s q 44=true/\¬ (q+1<s.size/\cE s (q+1)≠125)/\n= -2/\q2=q+1)\/(pO s q 44=true/\(q+1<s.size/\cE s (q+1)≠125)/\CntR s (q+1) n q2)
def sK (s:ByteArray) (m n:Int) (q2:Nat) (t:aJ):Prop:=m<0\/n= -1\/pO s q2 125=false\/8<m\/8<n\/(0<=n/\n<m)\/bT t=0
theorem CntR.low {v:Int} (h:CntR s p v q): -1<=v/\v<100:=by
 rcases h with⟨e,_⟩|⟨n,e,h,_⟩<;>omega
theorem zcw.low {m:Int} (h:zcw s q m n q2) (hm: -1<=m/\m<100): -2<=n/\n<100:=by
 rcases h with⟨_,e,_⟩|⟨_,_,e,_⟩|⟨_,_,h⟩
 . omega
 . omega
 have:=h.low;omega
def hiOf (n:Int):Int:=if n= -2 then -1 else n
theorem comma_hi {m:Nat} (h:zcw s q m n q2):
 (if pO s q 44 then (if decide (q+1<s.size)&& !decide (cE s (q+1)=125) then (dX s (q+1) p).map (λx=>((x.1:Int),x.2)) else .ok (-1,q+1)) else .ok ((m:Int),q):Except jU (Int×Nat))=if n= -1 then .error (4,p) else .ok (hiOf n,q2):=by
 rcases h with⟨h1,rfl,rfl⟩|⟨h1,h2,rfl,rfl⟩|⟨h1,h2,h3⟩
 . rw[h1,zN (by decide),zN (by omega),hiOf,zN (by omega)]
 . have e:(decide (q+1<s.size)&& !decide (cE s (q+1)=125))=false:=by
    simp only[Bool.and_eq_false_iff,decide_eq_false_iff_not,Bool.not_eq_false',decide_eq_true_eq];omega
   rw[h1,zP rfl,e,zN (by decide),zN (by decide)];rfl
 have e:(decide (q+1<s.size)&& !decide (cE s (q+1)=125))=true:=by
  simp only[Bool.and_eq_true,decide_eq_true_eq,Bool.not_eq_true',decide_eq_false_iff_not];exact h2
 rw[h1,zP rfl,e,zP rfl]
 rcases h3 with⟨rfl,h⟩|⟨k,rfl,_,h⟩
 . obtain⟨er,h,rfl⟩:=h p
   rw[h,zP rfl];rfl
 rw[h p,zN (by omega),hiOf,zN (by omega)]
 rfl
theorem times_eq {m:Int} {t:aJ} (h1:CntR s (p+1) m q) (h2:zcw s q m n q2):
 (sK s m n q2 t->lE s p t=.error (4,p))/\(¬ sK s m n q2 t->lE s p t=.ok (copyT t m.toNat n,q2+1)):=by
 have hl:=h2.low h1.low
 rcases h1 with⟨rfl,h⟩|⟨k,rfl,hk,h⟩
 . obtain⟨er,h,rfl⟩:=h p
   refine⟨λ_=> ?_,λhb=>absurd (.inl (by decide)) hb⟩;unfold lE;rw[h]
 unfold lE
 rw[h p];dsimp only;rw[comma_hi (p:=p) h2];by_cases hn:n= -1
 . refine⟨λ_=> ?_,λhb=>absurd (.inr (.inl hn)) hb⟩
   rw[zP hn]
 rw[zN hn]
 dsimp only;have e1:(8:Int)<hiOf n↔8<n:=by unfold hiOf;split<;>omega
 have e2:(0<=hiOf n/\hiOf n<(k:Int))↔(0<=n/\n<(k:Int)):=by unfold hiOf;split<;>omega
 have e3:hiOf n<0↔n<0:=by unfold hiOf;split<;>omega
 have e4:0<=n->hiOf n=n:=λh=>by unfold hiOf;rw[zN (by omega)]
 constructor
 . intro hb
   rw[zP];rw[e1,e2]
   rcases hb with hb|hb|hb|hb|hb|hb|hb
   . omega
   . exact absurd hb hn
   . exact .inl hb
   . exact .inr (.inl (by omega))
   . exact .inr (.inr (.inl hb))
   . exact .inr (.inr (.inr (.inl hb)))
   exact .inr (.inr (.inr (.inr hb)))
 intro hb
 rw[zN]
 . unfold copyT
   rw[Int.toNat_natCast];by_cases h0:n<0
   . rw[zP (e3.2 h0),zP h0]
     split<;>rfl
   rw[zN (λh=>h0 (e3.1 h)),zN h0,e4 (by omega)]
 rw[e1,e2]
 intro hc;apply hb
 rcases hc with hc|hc|hc|hc|hc
 . exact .inr (.inr (.inl hc))
 . exact .inr (.inr (.inr (.inl (by omega))))
 . exact .inr (.inr (.inr (.inr (.inl hc))))
 . exact .inr (.inr (.inr (.inr (.inr (.inl hc)))))
 exact .inr (.inr (.inr (.inr (.inr (.inr hc)))))
end Go.Proofs.YtghpmhllpaheiaaGreatDoor
namespace Go.Proofs.YtghpmhllpaheiaaGreatDoor
open Go.RowKit Go.Lib
def TmS (B pb:Nat) (s:ByteArray) (x:Pr) (lv:Value) (w:World) (q:Nat) (wr:World):Prop:=eW B pb s {x with aQ:=q} lv wr/\PK pb lv lv w wr
section
variable {B pb:Nat} {s:ByteArray} {x:Pr} {lv:Value} {w wr w2:World} {q:Nat}
theorem TmS.below (h:TmS B pb s x lv w q wr) (hb:Below wr.heap.size wr w2):TmS B pb s x lv w q w2:=⟨h.1.below hb,h.2.trans (PK.of_below hb)⟩
theorem TmS.inc (h:TmS B pb s x lv w q wr) (hq:q+1<=s.size):TmS B pb s x lv w (q+1) (wr.setCell ⟨pb,1,none⟩ (.int .i64 ((q:Int)+1))):=
 ⟨h.1.set 1 (.int .i64 ((q:Int)+1)) {x with aQ:=q+1} (by simp) rfl ⟨hq,h.1.sz.2.2.1,h.1.sz.2.2.2⟩,h.2.trans (PK.set 1 _)⟩
theorem TmS.count (h:TmS B pb s x lv w q wr):Calls Tryz.prog 176 #[bJ pb] wr λe w'=>∃ (v:Int) (q2:Nat),e=.returned (.int .i64 v)/\TmS B pb s x lv w q2 w'/\q<=q2/\q2<=s.size/\CntR s q v q2:=by
 refine (count_any B pb s _ lv wr h.1).mono ?_;rintro e w' ⟨v,q2,h1,h2,h3,h4,h5⟩;exact⟨v,q2,h1,⟨h2.1,h.2.trans h2.2⟩,h3,h4,h5⟩
theorem TmS.facts (h:TmS B pb s x lv w q wr):wr.cell? ⟨pb,0,none⟩=some (.string s)/\wr.cell? ⟨pb,1,none⟩=some (.int .i64 q)/\wr.cell? ⟨pb,4,none⟩=some lv/\pb<wr.heap.size/\wr.frozen? ⟨pb,1,none⟩=false:=
 ⟨h.1.cells.1,h.1.cells.2.1,h.1.cells.2.2.2.2,h.1.lt,aM wr pb 1 _ _ h.1.blk⟩
theorem TmS.bad (h:TmS B pb s x lv w q wr) (he:x.e=0) (hk:x.aQ<=60):
 Calls Tryz.prog 126 #[bJ pb,.int .i64 4,.int .i64 x.aQ] wr λe' w'=>e'=.returned (.tuple #[])/\eW B pb s {x with aQ:=q,e:=4,wh:=x.aQ} lv w'/\PK pb lv lv w w':=by
 refine (gP B pb s _ lv wr h.1 4 x.aQ (by decide) hk).mono ?_;rintro e' w' ⟨rfl,h1,h2⟩;refine⟨rfl,?_,h.2.trans h2⟩;have e:eH {x with aQ:=q} 4 x.aQ={x with aQ:=q,e:=4,wh:=x.aQ}:=by unfold eH;rw[zP he]
 rw[e] at h1;exact h1
end
theorem isbN {s:ByteArray} {q c:Nat} (h:pO s q c=false):¬ q<s.size\/(q<s.size/\cE s q≠c):=by
 unfold pO at h;rw[Bool.and_eq_false_iff,decide_eq_false_iff_not,decide_eq_false_iff_not] at h;omega
theorem isbY {s:ByteArray} {q c:Nat} (h:pO s q c=true):q<s.size/\cE s q=c:=by
 unfold pO at h;rw[Bool.and_eq_true,decide_eq_true_eq,decide_eq_true_eq] at h;exact h
theorem zfW (B pb:Nat) (s:ByteArray) (x:Pr) (lv:Value) (w:World) (h:eW B pb s x lv w) (he:x.e=0) (hx:x.aQ<s.size) (a:Nat) (t:aJ) (ht:cO x.ns a t) (hl:x.ns.length<=900000):
 Calls Tryz.prog 173 #[bJ pb,.int .i64 a] w (yV B pb s x 0 0 3 (lE s x.aQ t) lv w):=by
 have hz:=h.sz;have HE:=zh (zAi he (show x.aQ<=60 by omega));have ux:=zh (zAi ht hl);obtain⟨nd,TK⟩:=ht.get;have pj:=zh (zAi TK (zAi (show (nd.n:Int)=bT t by rw[<-kM TK];exact ht.places) (show a<x.ns.length from ht.lt)));have Ah:zH (TmS B pb s x lv w x.aQ w):=zh ⟨h,PK.refl _ _ _⟩;obtain⟨ao,cap,rfl⟩:∃ ao cap,lv=.slice ao x.ns.length cap:=by
  rcases bD h.row with⟨e,e'⟩|⟨g,cap,e,_⟩
  . exact⟨none,0,by rw[e,e']⟩
  exact⟨_,_,e⟩
 obtain⟨g,rfl⟩:∃ g,ao=some ⟨g,0,none⟩:=by
  rcases bD h.row with⟨_,e⟩|⟨g,cap,e,_⟩
  . have:=ht.lt;omega
  cases e;exact⟨g,rfl⟩
 obtain⟨lv,td⟩:=zE (Value.slice (some ⟨g,0,none⟩) x.ns.length cap);rw[<-td] at Ah h ⊢;have LU:=zh td;have zA:(a:Int)<(x.ns.length:Int):=by have:=ht.lt;omega
 obtain⟨c00,c01,_,lp0,f01⟩:=Ah.o.facts;have hw01:IntKind.i64.wrap ((x.aQ:Int)+1)=(x.aQ:Int)+1:=zIn _ (by omega);clear h he ht TK hl td;unfold bJ;go_enter Tryz.func173,Tryz.ntmps173;go_upto_region 3 with (fail)
 have Rv:=zh (Ah.o.inc (by omega));generalize w.setCell ⟨pb,1,none⟩ (.int .i64 ((x.aQ:Int)+1))=w1 at Rv ⊢;have HC:=zh Rv.o.count;unfold bJ at HC;clear c00 c01 lp0 f01;go_upto_region 5 with (go_at_call 176;refine HC.o.mono ?_;rintro e' w3 ⟨m,q,rfl,ho,SZ,XX,VI⟩;have ja:=zh ho;have Ix:=zh VI;have th:=VI.low;clear ho VI)
 go_cut [43] (λs43 wx=>s43=.bool (pO s q 44)/\TmS B pb s x lv w q wx)
 case first=>
  obtain⟨c30,c31,_,lp3,f31⟩:=ja.o.facts;cases j7:pO s q 44 with
  | false=>
   rcases isbN j7 with z1|⟨z1,z2⟩
   . have z1':decide ((q:Int)<(s.size:Int))=false:=by simp;omega
     go_wp2_with (fail);go_quiet (fail);have Q0:=zh (ja.o.below (aV (zBr _ w3) nq));generalize w3.drewN nq=w5 at Q0 ⊢;go_wp2_with (fail);go_meet;exact⟨by rw[j7],Q0.o⟩
   . have z1':(q:Int)<(s.size:Int):=by omega
     have vl:=fP s q z1;have z2':((cE s q:Int)==44)=false:=by simp;omega
     go_wp2_with (fail);go_quiet (fail);have Q0:=zh (ja.o.below (aV (zBr _ w3) nq));generalize w3.drewN nq=w5 at Q0 ⊢;go_wp2_with (fail);go_meet;exact⟨by rw[j7],Q0.o⟩
  | true=>
   obtain⟨z1,z2⟩:=isbY j7;have z1':(q:Int)<(s.size:Int):=by omega
   have vl:=fP s q z1;have z2':((cE s q:Int)==44)=true:=by simp;omega
   go_wp2_with (fail);go_quiet (fail);have Q0:=zh (ja.o.below (aV (zBr _ w3) nq));generalize w3.drewN nq=w5 at Q0 ⊢;go_wp2_with (fail);go_meet;exact⟨by rw[j7],Q0.o⟩
 case rest=>
 obtain⟨rfl,N6⟩:=hcut;have j5:=zh N6;clear N6 ja;obtain⟨w4,OZ⟩:=zE (wc);rw[<-OZ] at j5 ⊢;clear OZ;go_upto_if 43 with (fail);go_cut [7] (λs7 wx=>∃ (n:Int) (q2:Nat),s7=.int .i64 n/\TmS B pb s x lv w q2 wx/\x.aQ<=q2/\zcw s q m n q2)
 case first=>
  cases j7:pO s q 44 with
  | false=>
   go_wp2_with (fail);go_meet;exact⟨m,q,rfl,j5.o,by omega,.inl ⟨j7,rfl,rfl⟩⟩
  | true=>
   obtain⟨z1,z2⟩:=isbY j7;obtain⟨_,c41,_,lp4,f41⟩:=j5.o.facts;have hw41:=zW q (by omega);go_upto_region 8 with (fail);have tV:=zh (j5.o.inc (by omega));clear c41 lp4 f41;generalize w4.setCell ⟨pb,1,none⟩ (.int .i64 ((q:Int)+1))=w4b at tV ⊢;obtain⟨r,hr⟩:=zE (q+1);rw[<-hr] at tV;have HR:=zh hr;have jj:q+1<=r/\r<=q+1:=by omega
   clear hr;obtain⟨c40,c41,_,lp4,f41⟩:=tV.o.facts;by_cases hg:r<s.size/\cE s r≠125
   . have y1:(r:Int)<(s.size:Int):=by omega
     have vl:=fP s r hg.1;have y2:((cE s r:Int) != 125)=true:=by have:=hg.2;simp;omega
     go_wp2_with (fail);go_quiet (fail);have fz:=zh (tV.o.below (aV (zBr _ w4b) nq));generalize w4b.drewN nq=w4c at fz ⊢;have HC:=zh fz.o.count;unfold bJ at HC;clear vl y2 c40 c41 lp4 f41;go_wp2_with (first|(go_at_call 176;refine HC.o.mono ?_;rintro e' w5 ⟨n,q2,rfl,ho,S1,hq4,VI⟩;have Q0:=zh ho;have LA:=zh VI;clear ho VI));go_meet;exact⟨n,q2,rfl,Q0.o,by omega,.inr (.inr ⟨j7,by rw[<-HR.o];exact hg,by rw[<-HR.o];exact LA.o⟩)⟩
   . rcases (by omega:¬ r<s.size\/(r<s.size/\cE s r=125)) with y1|⟨y1,y2⟩
     . have y1':decide ((r:Int)<(s.size:Int))=false:=by simp;omega
       go_wp2_with (fail);go_quiet (fail);have Q0:=zh (tV.o.below (aV (zBr _ w4b) nq));generalize w4b.drewN nq=w5 at Q0 ⊢;clear c40 c41 lp4 f41;go_wp2_with (fail);go_meet;exact⟨-2,r,rfl,Q0.o,by omega,.inr (.inl ⟨j7,by rw[<-HR.o];exact hg,rfl,HR.o⟩)⟩
     . have y1':(r:Int)<(s.size:Int):=by omega
       have vl:=fP s r y1;go_wp2_with (fail);go_quiet (fail);have Q0:=zh (tV.o.below (aV (zBr _ w4b) nq));generalize w4b.drewN nq=w5 at Q0 ⊢;clear c40 c41 lp4 f41;go_wp2_with (fail);go_meet;exact⟨-2,r,rfl,Q0.o,by omega,.inr (.inl ⟨j7,by rw[<-HR.o];exact hg,rfl,HR.o⟩)⟩
 case rest=>
  obtain⟨n,q2,rfl,wl,wL,QY⟩:=hcut;have Q0:=zh wl;have RC:=zh (times_eq (t:=t) Ix.o QY);have IV:=zh wL;have Yk:=QY.low th;clear wl wL QY j5 Ix;obtain⟨w5,X9⟩:=zE (wc);rw[<-X9] at Q0 ⊢;clear X9;go_upto_if 132 with (fail);go_cut [132] (λs132 wx=>∃ b:Bool,s132=.bool b/\TmS B pb s x lv w q2 wx/\(b=true↔sK s m n q2 t))
  case first=>
   obtain⟨c50,c51,c54,lp5,f51⟩:=Q0.o.facts;have Cp:=Q0.o.1.sz;dsimp only at Cp;have Yu:=Q0.o.1.row;rw[LU.o] at Yu c54;dsimp only at Yu;have ol:=aE Yu _ _ (pP _ _ _ pj.o.1);clear Yu;by_cases b1:m<0
   . have BT:sK s m n q2 t:=.inl b1
     go_wp2_with (fail);go_quiet (fail);have Ql:=zh (Q0.o.below (aV (zBr _ w5) nq));generalize w5.drewN nq=w6 at Ql ⊢;go_wp2_with (fail);go_meet;exact⟨true,rfl,Ql.o,by simpa using BT⟩
   have b1':decide (m<0)=false:=by simpa using b1
   by_cases b2:n= -1
   . have b2':(n== -1)=true:=by simpa using b2
     have BT:sK s m n q2 t:=.inr (.inl b2);clear b2;go_wp2_with (fail);go_quiet (fail);have Ql:=zh (Q0.o.below (aV (zBr _ w5) nq));generalize w5.drewN nq=w6 at Ql ⊢;go_wp2_with (fail);go_meet;exact⟨true,rfl,Ql.o,by simpa using BT⟩
   have b2':(n== -1)=false:=by simpa using b2
   cases QW:pO s q2 125 with
   | false=>
    rcases isbN QW with b3|⟨b3,b4⟩
    . have b3':((q2:Int)==(s.size:Int))=true:=by simp;omega
      have BT:sK s m n q2 t:=.inr (.inr (.inl QW));go_wp2_with (fail);go_quiet (fail);have Ql:=zh (Q0.o.below (aV (zBr _ w5) nq));generalize w5.drewN nq=w6 at Ql ⊢;go_wp2_with (fail);go_meet;exact⟨true,rfl,Ql.o,by simpa using BT⟩
    . have b3':((q2:Int)==(s.size:Int))=false:=by simp;omega
      have vl:=fP s q2 b3;have b4':((cE s q2:Int) != 125)=true:=by simp;omega
      have z3:(q2:Int)<(s.size:Int):=by omega
      have BT:sK s m n q2 t:=.inr (.inr (.inl QW));go_wp2_with (fail);go_quiet (fail);have Ql:=zh (Q0.o.below (aV (zBr _ w5) nq));generalize w5.drewN nq=w6 at Ql ⊢;go_wp2_with (fail);go_meet;exact⟨true,rfl,Ql.o,by simpa using BT⟩
   | true=>
    obtain⟨b3,b4⟩:=isbY QW;have b3':((q2:Int)==(s.size:Int))=false:=by simp;omega
    have vl:=fP s q2 b3;have b4':((cE s q2:Int) != 125)=false:=by simp;omega
    have z3:(q2:Int)<(s.size:Int):=by omega
    by_cases b5:8<m
    . have BT:sK s m n q2 t:=.inr (.inr (.inr (.inl b5)))
      go_wp2_with (fail);go_quiet (fail);have Ql:=zh (Q0.o.below (aV (zBr _ w5) nq));generalize w5.drewN nq=w6 at Ql ⊢;go_wp2_with (fail);go_meet;exact⟨true,rfl,Ql.o,by simpa using BT⟩
    have b5':decide (8<m)=false:=by simpa using b5
    by_cases b6:8<n
    . have BT:sK s m n q2 t:=.inr (.inr (.inr (.inr (.inl b6))))
      go_wp2_with (fail);go_quiet (fail);have Ql:=zh (Q0.o.below (aV (zBr _ w5) nq));generalize w5.drewN nq=w6 at Ql ⊢;go_wp2_with (fail);go_meet;exact⟨true,rfl,Ql.o,by simpa using BT⟩
    have b6':decide (8<n)=false:=by simpa using b6
    by_cases b7:0<=n
    . by_cases b8:n<m
      . have BT:sK s m n q2 t:=.inr (.inr (.inr (.inr (.inr (.inl ⟨b7,b8⟩)))))
        go_wp2_with (fail);go_quiet (fail);have Ql:=zh (Q0.o.below (aV (zBr _ w5) nq));generalize w5.drewN nq=w6 at Ql ⊢;go_wp2_with (fail);go_meet;exact⟨true,rfl,Ql.o,by simpa using BT⟩
      have b8':decide (n<m)=false:=by simpa using b8
      by_cases b9:bT t=0
      . have b9':((nd.n:Int)==0)=true:=by rw[pj.o.2.1,b9];rfl
        have BT:sK s m n q2 t:=.inr (.inr (.inr (.inr (.inr (.inr b9)))));go_wp2_with (fail);go_quiet (fail);have Ql:=zh (Q0.o.below (aV (zBr _ w5) nq));generalize w5.drewN nq=w6 at Ql ⊢;go_wp2_with (fail);go_meet;exact⟨true,rfl,Ql.o,by simpa using BT⟩
      have b9':((nd.n:Int)==0)=false:=by have:=pj.o.2.1;simp;omega
      have BT:¬ sK s m n q2 t:=(by unfold sK;rw[QW];simp only[Bool.true_eq_false,false_or];omega);go_wp2_with (fail);go_quiet (fail);have Ql:=zh (Q0.o.below (aV (zBr _ w5) nq));generalize w5.drewN nq=w6 at Ql ⊢;go_wp2_with (fail);go_meet;exact⟨false,rfl,Ql.o,by simpa using BT⟩
    . have b7':decide (0<=n)=false:=by simpa using b7
      by_cases b9:bT t=0
      . have b9':((nd.n:Int)==0)=true:=by rw[pj.o.2.1,b9];rfl
        have BT:sK s m n q2 t:=.inr (.inr (.inr (.inr (.inr (.inr b9)))));go_wp2_with (fail);go_quiet (fail);have Ql:=zh (Q0.o.below (aV (zBr _ w5) nq));generalize w5.drewN nq=w6 at Ql ⊢;go_wp2_with (fail);go_meet;exact⟨true,rfl,Ql.o,by simpa using BT⟩
      have b9':((nd.n:Int)==0)=false:=by have:=pj.o.2.1;simp;omega
      have BT:¬ sK s m n q2 t:=(by unfold sK;rw[QW];simp only[Bool.true_eq_false,false_or];omega);go_wp2_with (fail);go_quiet (fail);have Ql:=zh (Q0.o.below (aV (zBr _ w5) nq));generalize w5.drewN nq=w6 at Ql ⊢;go_wp2_with (fail);go_meet;exact⟨false,rfl,Ql.o,by simpa using BT⟩
  case rest=>
   obtain⟨b,rfl,wn,Kg⟩:=hcut;have Ql:=zh wn;have na:=zh Kg;clear wn Kg Q0;obtain⟨w6,O0⟩:=zE (wc);rw[<-O0] at Ql ⊢;clear O0;cases b with
   | true=>
    have Ly:=zh (RC.o.1 (na.o.1 rfl));have HF:=zh (Ql.o.bad HE.o.1 HE.o.2);unfold bJ at HF;go_wp2_with (first|(go_at_call 126;refine HF.o.mono ?_;rintro e' w7 ⟨rfl,ho⟩;have H6:=zh ho;clear ho));go_ret;exact⟨a,_,lv,rfl,H6.o.1,H6.o.2,List.prefix_refl _,ux.o.1.lt,IV.o,by rw[Ly.o];exact⟨rfl,rfl,(by decide:(4:Nat)≠0),by have:=IV.o;show x.ns.length+_<=x.ns.length+20*q2+0;omega⟩⟩
   | false=>
    have ti:¬ sK s m n q2 t:=λh=>absurd (na.o.2 h) (by decide);have nr:=zh (RC.o.2 ti);have GU:=ti;unfold sK at GU;have OB:q2<s.size:=(isbY (by cases h:pO s q2 125 with|true=>rfl|false=>exact absurd (.inr (.inr (.inl h))) ti)).1;have Qm:0<=m/\m<=8/\n≠ -1/\n<=8/\¬ (0<=n/\n<m):=by omega
    clear ti GU;obtain⟨_,c61,_,lp6,f61⟩:=Ql.o.facts;have hw61:=zW q2 (by omega);go_upto_region 14 with (fail)
    have p9:=zh (Ql.o.inc (by omega));generalize w6.setCell ⟨pb,1,none⟩ (.int .i64 ((q2:Int)+1))=w7 at p9 ⊢;obtain⟨mm,rfl⟩:∃ mm:Nat,m=(mm:Int):=⟨m.toNat,by omega⟩;rw[Int.toNat_natCast] at nr;have Iy:=zh (zfv B pb s _ lv w7 p9.o.1 a t ux.o.1 mm n (by omega) (by omega) ux.o.2);unfold bJ at Iy;go_wp2_with (first|(go_at_call 177;refine Iy.o.mono ?_;rintro e' w8 ⟨k,N,QU,rfl,ho⟩;have H8:=zh ho;clear ho));go_ret;obtain⟨g1,g2,g3,g4,g5,g6⟩:=H8.o
    exact⟨k,_,QU,rfl,g1,p9.o.2.trans g2,g3,g5,by show x.aQ<=q2+1;have:=IV.o;omega,by rw[nr.o];exact⟨rfl,rfl,rfl,g6,by have:=IV.o;show N.length+20*x.aQ+3<=x.ns.length+20*(q2+1)+0;have:N.length<=x.ns.length+17:=g4;omega⟩⟩
end Go.Proofs.YtghpmhllpaheiaaGreatDoor
namespace Go.Proofs.YtghpmhllpaheiaaGreatDoor
open Go.RowKit Go.Lib
def repP (s:ByteArray) (r:Except jU (aJ×Nat)):Except jU (aJ×Nat):=match r with| .error e=>.error e| .ok (t,q)=>fQ s q t
theorem again_eq (s:ByteArray) (q:Nat) (t:aJ):fQ s q t=
 if (bQ s q).1<0/\0<(bQ s q).2 then .error (2,q) else if (bQ s q).1=42 then .ok (.rep t 0 false,q+1) else if (bQ s q).1=43 then .ok (.rep t 1 false,q+1) else if (bQ s q).1=63 then .ok (.rep t 0 true,q+1) else if (bQ s q).1=123 then lE s q t else .ok (t,q):=by
 unfold fQ;rw[eT];by_cases h:(bQ s q).1<0/\0<(bQ s q).2
 . rw[zP h,zP h]
 rw[zN h,zN h]
section
variable {B pb:Nat} {s:ByteArray} {x y:Pr} {lv QU:Value} {w w1 w2:World} {c1 c2 d k:Nat}
theorem yV.from {res:Except jU (aJ×Nat)} {e:Ending} {a1 a2 b:Nat} (hp:PK pb lv QU w w1) (hn:x.ns<+:y.ns) (ha:x.aQ<=y.aQ) (he:y.e=x.e) (hw:y.wh=x.wh) (h:yV B pb s y a1 a2 b res QU w1 e w2)
 (h1:y.ns.length+20*x.aQ+d+a1<=x.ns.length+20*y.aQ+c1+b) (h2:y.ns.length+20*x.aQ+a2<=x.ns.length+20*y.aQ+c2):yV B pb s x c1 c2 d res lv w e w2:=by
 obtain⟨k,z,Ky,rfl,g1,g2,g3,g4,g5,g6⟩:=h;refine⟨k,z,Ky,rfl,g1,hp.trans g2,hn.trans g3,g4,zT ha g5,?_⟩;cases res with
 | ok r=>
  obtain⟨T,q⟩:=r;obtain⟨u1,u2,u3,u4,u5⟩:=g6;exact⟨u1.trans he,u2.trans hw,u3,u4,by omega⟩
 | error er=>
  obtain⟨u1,u2,u3,u4⟩:=g6;exact⟨u1,u2,u3,by omega⟩
end
theorem rrep_any (B pb:Nat) (s:ByteArray) (x:Pr) (lv:Value) (w:World) (deep:Nat) (R:Except jU (aJ×Nat)) (he:x.e=0) (hz:s.size<=60/\x.aQ<=s.size) (hl:x.ns.length<=20*x.aQ+12)
 (hA:Calls Tryz.prog 172 #[bJ pb,.int .i64 deep] w (yV B pb s x 0 4 19 R lv w)):
 Calls Tryz.prog 169 #[bJ pb,.int .i64 deep] w (yV B pb s x 0 4 19 (repP s R) lv w):=by
 have HA:=zh hA;have HE:=zh he;have Va:=zh hl;clear hA he hl;unfold bJ at HA ⊢;go_enter Tryz.func169,Tryz.ntmps169;go_upto_region 2 with (go_at_call 172;refine HA.o.mono ?_;rintro e' w1 ⟨k,y,Vh,rfl,qz,Kl,yj,yi,KS,NV⟩;have H1:=zh qz;have pw:=zh NV;clear NV)
 obtain⟨_,_,f2,_⟩:=qz.cells;have Iq:=qz.sz;cases R with
 | error er=>
  obtain⟨u1,u2,u3,u4⟩:=pw.o;have z:((y.e:Int) != 0)=true:=by simp;omega
  have HF:zH (PK pb lv Vh w w1/\x.ns<+:y.ns/\k<y.ns.length/\x.aQ<=y.aQ):=zh ⟨Kl,yj,yi,KS⟩;clear qz Kl yj yi KS u1 u2 u3 u4;go_wp2_with (fail);go_ret;exact⟨k,y,Vh,rfl,H1.o,HF.o.1,HF.o.2.1,HF.o.2.2.1,HF.o.2.2.2,pw.o⟩
 | ok r=>
 obtain⟨t,q⟩:=r;obtain⟨u1,u2,rfl,u4,u5⟩:=pw.o;have TQ:y.e=0:=by rw[u1];exact HE.o
 rw[TQ] at f2;have ee:=zh TQ;have ux:=zh u4;have Nb:=zh qz.nb;have YP:zH (y.ns.length+20*x.aQ+19<=x.ns.length+20*y.aQ+0/\x.ns.length<=20*x.aQ+12/\y.aQ<=60):=zh ⟨u5,Va.o,by omega⟩;have HK:zH (PK pb lv Vh w w1/\True/\x.ns<+:y.ns/\k<y.ns.length/\x.aQ<=y.aQ/\y.e=x.e/\y.wh=x.wh):=zh ⟨Kl,trivial,yj,yi,KS,u1,u2⟩;have qe:=gQ B pb s y Vh w1 qz;have JL:zH (¬ ((bQ s y.aQ).1<0/\0<(bQ s y.aQ).2)->dR s y=y):=zh qS
 have u9:zH ((bQ s y.aQ).1<0/\0<(bQ s y.aQ).2->dR s y={y with e:=2,wh:=y.aQ}):=zh (vO TQ);have YZ:=zh (lO (s:=s) (p:=y.aQ));have TU:=zh (again_eq s y.aQ t);have Qt:=mJ s y.aQ Iq.2.1;clear u1 u2 u4 u5 TQ qz Kl yj yi KS pw;generalize dR s y=y1 at qe JL u9;generalize bQ s y.aQ=cn at qe Qt JL u9 YZ TU;obtain⟨c,n⟩:=cn;dsimp only at qe Qt JL u9 YZ TU;have Qj:=zh qe;clear qe;unfold bJ at Qj
 go_upto_region 5 with (go_at_call 150;refine Qj.o.mono ?_;rintro e' w2 ⟨rfl,ho⟩;have H2:=zh ho;clear ho)
 clear f2;by_cases Fd:c=42
 . subst Fd
   have Yd:=H2.o;rw[JL.o (by omega)] at Yd;obtain⟨yj,Qu⟩:=YZ.o (by omega);subst yj;obtain⟨_,f21,_⟩:=Yd.1.cells;have ff1:=aM w2 pb 1 _ _ Yd.1.blk;have qb:=Yd.1.set 1 (.int .i64 ((y.aQ:Int)+1)) {y with aQ:=y.aQ+1} (by simp) rfl ⟨by show y.aQ+1<=s.size;omega,Yd.1.sz.2.2.1,Yd.1.sz.2.2.2⟩;have HN:=zh (kZ qb 4 k 0 (by omega) (λ_=>HK.o.2.2.2.1) (by omega) (by show y.ns.length<=1000000;have:=YP.o;omega))
   have V3:=zh (Yd.2.trans (PK.set (pb:=pb) (v:=Vh) 1 (w:=w2) (.int .i64 ((y.aQ:Int)+1))));have yz:IntKind.i64.wrap ((y.aQ:Int)+1)=(y.aQ:Int)+1:=zIn _ (by omega);have XJ:zH (fQ s y.aQ t=.ok (.rep t 0 false,y.aQ+1)):=zh (by rw[TU.o];rfl);clear Yd qb TU;unfold bJ at HN;go_wp2_with (first|(go_at_call 151;refine HN.o.mono ?_;rintro e' w3 ⟨JD,rfl,ho⟩;have H3:=zh ho;clear ho));go_ret;have hk:=HK.o
   refine⟨_,_,JD,rfl,H3.o.1,hk.1.trans (V3.o.trans H3.o.2),hk.2.2.1.trans (fE _ _),by simp,by show x.aQ<=y.aQ+1;have:=hk.2.2.2.2.1;omega,?_⟩;show (match fQ s y.aQ t with| .ok (T,q)=>_| .error er=>_:Prop);rw[XJ.o];exact⟨HK.o.2.2.2.2.2.1,HK.o.2.2.2.2.2.2,rfl,(λN hN h=>mk_star hN h) y.ns Nb.o ux.o,by have:=YP.o;simp only[zLn,List.length_singleton];show _<=x.ns.length+20*(y.aQ+1)+0;omega⟩
 by_cases Fe:c=43
 . subst Fe
   have Yd:=H2.o;rw[JL.o (by omega)] at Yd;obtain⟨yj,Qu⟩:=YZ.o (by omega);subst yj;obtain⟨_,f21,_⟩:=Yd.1.cells;have ff1:=aM w2 pb 1 _ _ Yd.1.blk;have qb:=Yd.1.set 1 (.int .i64 ((y.aQ:Int)+1)) {y with aQ:=y.aQ+1} (by simp) rfl ⟨by show y.aQ+1<=s.size;omega,Yd.1.sz.2.2.1,Yd.1.sz.2.2.2⟩;have HN:=zh (kZ qb 5 k 0 (by omega) (λ_=>HK.o.2.2.2.1) (by omega) (by show y.ns.length<=1000000;have:=YP.o;omega))
   have V3:=zh (Yd.2.trans (PK.set (pb:=pb) (v:=Vh) 1 (w:=w2) (.int .i64 ((y.aQ:Int)+1))));have yz:IntKind.i64.wrap ((y.aQ:Int)+1)=(y.aQ:Int)+1:=zIn _ (by omega);have XJ:zH (fQ s y.aQ t=.ok (.rep t 1 false,y.aQ+1)):=zh (by rw[TU.o];rfl);clear Yd qb TU;unfold bJ at HN;go_wp2_with (first|(go_at_call 151;refine HN.o.mono ?_;rintro e' w3 ⟨JD,rfl,ho⟩;have H3:=zh ho;clear ho));go_ret;have hk:=HK.o
   refine⟨_,_,JD,rfl,H3.o.1,hk.1.trans (V3.o.trans H3.o.2),hk.2.2.1.trans (fE _ _),by simp,by show x.aQ<=y.aQ+1;have:=hk.2.2.2.2.1;omega,?_⟩;show (match fQ s y.aQ t with| .ok (T,q)=>_| .error er=>_:Prop);rw[XJ.o];exact⟨HK.o.2.2.2.2.2.1,HK.o.2.2.2.2.2.2,rfl,(λN hN h=>mk_plus hN h) y.ns Nb.o ux.o,by have:=YP.o;simp only[zLn,List.length_singleton];show _<=x.ns.length+20*(y.aQ+1)+0;omega⟩
 by_cases BO:c=63
 . subst BO
   have Yd:=H2.o;rw[JL.o (by omega)] at Yd;obtain⟨yj,Qu⟩:=YZ.o (by omega);subst yj;obtain⟨_,f21,_⟩:=Yd.1.cells;have ff1:=aM w2 pb 1 _ _ Yd.1.blk;have qb:=Yd.1.set 1 (.int .i64 ((y.aQ:Int)+1)) {y with aQ:=y.aQ+1} (by simp) rfl ⟨by show y.aQ+1<=s.size;omega,Yd.1.sz.2.2.1,Yd.1.sz.2.2.2⟩;have HN:=zh (kZ qb 6 k 0 (by omega) (λ_=>HK.o.2.2.2.1) (by omega) (by show y.ns.length<=1000000;have:=YP.o;omega))
   have V3:=zh (Yd.2.trans (PK.set (pb:=pb) (v:=Vh) 1 (w:=w2) (.int .i64 ((y.aQ:Int)+1))));have yz:IntKind.i64.wrap ((y.aQ:Int)+1)=(y.aQ:Int)+1:=zIn _ (by omega);have XJ:zH (fQ s y.aQ t=.ok (.rep t 0 true,y.aQ+1)):=zh (by rw[TU.o];rfl);clear Yd qb TU;unfold bJ at HN;go_wp2_with (first|(go_at_call 151;refine HN.o.mono ?_;rintro e' w3 ⟨JD,rfl,ho⟩;have H3:=zh ho;clear ho));go_ret;have hk:=HK.o
   refine⟨_,_,JD,rfl,H3.o.1,hk.1.trans (V3.o.trans H3.o.2),hk.2.2.1.trans (fE _ _),by simp,by show x.aQ<=y.aQ+1;have:=hk.2.2.2.2.1;omega,?_⟩;show (match fQ s y.aQ t with| .ok (T,q)=>_| .error er=>_:Prop);rw[XJ.o];exact⟨HK.o.2.2.2.2.2.1,HK.o.2.2.2.2.2.2,rfl,(λN hN h=>mk_opt hN h) y.ns Nb.o ux.o,by have:=YP.o;simp only[zLn,List.length_singleton];show _<=x.ns.length+20*(y.aQ+1)+0;omega⟩
 have z42:(c==42)=false:=by simp[Fd]
 have z43:(c==43)=false:=by simp[Fe]
 have z63:(c==63)=false:=by simp[BO]
 by_cases Un:c=123
 . subst Un
   have Yd:=H2.o;rw[JL.o (by omega)] at Yd;obtain⟨yj,Qu⟩:=YZ.o (by omega);have HT:=zh (zfW B pb s y Vh w2 Yd.1 ee.o Qu k t ux.o (by have:=YP.o;omega));have V3:=zh Yd.2;have XJ:zH (fQ s y.aQ t=lE s y.aQ t):=zh (by rw[TU.o];rfl);clear Yd TU yj Fd Fe BO;unfold bJ at HT;go_wp2_with (first|(go_at_call 173;refine HT.o.mono ?_;rintro e' w3 ho;obtain⟨k3,_,_,rfl,_⟩:=id ho;have H3:=zh ho;clear ho));go_ret;have hk:=HK.o
   show yV B pb s x 0 4 19 (fQ s y.aQ t) lv w _ _;rw[XJ.o];exact yV.from (hk.1.trans V3.o) hk.2.2.1 hk.2.2.2.2.1 hk.2.2.2.2.2.1 hk.2.2.2.2.2.2 H3.o (by have:=YP.o;omega) (by have:=YP.o;omega)
 have z123:(c==123)=false:=by simp[Un]
 have HC:=zh (zAi Fd (zAi Fe (zAi BO Un)));clear Fd Fe BO Un;go_wp2_with (fail);go_ret;have hk:=HK.o;have hc:=HC.o;show yV B pb s x 0 4 19 (fQ s y.aQ t) lv w _ _;rw[TU.o];by_cases hb:c<0/\0<n
 . rw[zP hb]
   have Yd:=H2.o;rw[u9.o hb] at Yd;exact⟨k,_,Vh,rfl,Yd.1,hk.1.trans Yd.2,hk.2.2.1,hk.2.2.2.1,hk.2.2.2.2.1,rfl,rfl,(by decide:(2:Nat)≠0),by have:=YP.o;show y.ns.length+20*x.aQ<=x.ns.length+20*y.aQ+4;omega⟩
 rw[zN hb,zN hc.1,zN hc.2.1,zN hc.2.2.1,zN hc.2.2.2]
 have Yd:=H2.o;rw[JL.o hb] at Yd;exact⟨k,y,Vh,rfl,Yd.1,hk.1.trans Yd.2,hk.2.2.1,hk.2.2.2.1,hk.2.2.2.2.1,hk.2.2.2.2.2.1,hk.2.2.2.2.2.2,rfl,ux.o,YP.o.1⟩
