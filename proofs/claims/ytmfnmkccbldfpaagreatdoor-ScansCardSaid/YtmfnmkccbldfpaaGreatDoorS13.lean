/- Part of a proof. No condition. -/
import Derived.Test.YtmfnmkccbldfpaaGreatDoorS03
import Derived.Deep.RegionWith
import Derived.Test.YtmfnmkccbldfpaaGreatDoorS11
set_option linter.unusedVariables false
set_option linter.unusedSimpArgs false
set_option maxRecDepth 100000
set_option maxHeartbeats 4000000
namespace Go.Proofs.YtmfnmkccbldfpaaGreatDoor
open Go.RowKit Go.Lib Tryz
theorem zzBB {p:Prop} (h:p:=by
 have:l.length<=maxLen:=by rcases h2.2 with⟨_,h⟩|⟨_,_,_,_,_,_,h,h',_⟩<;>omega
 unfold maxLen at this;omega):p:=h
variable {S:Nat->Prop} {w w':ω}
mutual
def aW (S:Nat->Prop) (w:ω):aL->Value->Prop
 | .cL l,v=>∃ sl,v=Δ 240 sl/\gV w sl l/\(∀ g,β sl=some g->S g)
 | .row l,v=>∃ sl vs,v=Δ 242 sl/\w.r 165 1 sl (I l) vs/\(∀ g,β sl=some g->S g)/\cM S w l vs
 | .either a b,v=>∃ va vb,v=Δ 244 (.agg #[va,vb])/\aW S w a va/\aW S w b vb
 | .rep t m o,v=>∃ vt,v=Δ 246 (.agg #[vt,ι m,φ o])/\aW S w t vt
def cM (S:Nat->Prop) (w:ω):List aL->ζ->Prop
 | [],vs=>vs=[]
 | t::l,vs=>∃ v r,vs=v::r/\aW S w t v/\cM S w l r
end
mutual
theorem aW.ext {T:Nat->Prop} (hS:∀ g,S g->T g) (h:∀ g,S g->g<w.t->w'.e w g):∀ (t:aL) (v:Value),aW S w t v->aW T w' t v
 | .cL l,v,hv=>by
  simp only[aW] at hv ⊢;obtain⟨sl,h1,h2,h3⟩:=hv;exact⟨sl,h1,aU h2 (λg hg=>h g (h3 g hg) (h2.lt g hg).2),λg hg=>hS g (h3 g hg)⟩
 | .row l,v,hv=>by
  simp only[aW] at hv ⊢;obtain⟨sl,vs,h1,h2,h3,h4⟩:=hv;exact⟨sl,vs,h1,aU h2 (λg hg=>h g (h3 g hg) (h2.lt g hg).2),λg hg=>hS g (h3 g hg),cM.ext hS h l vs h4⟩
 | .either a b,v,hv=>by
  simp only[aW] at hv ⊢;obtain⟨va,vb,h1,h2,h3⟩:=hv;exact⟨va,vb,h1,aW.ext hS h a va h2,aW.ext hS h b vb h3⟩
 | .rep t m o,v,hv=>by
  simp only[aW] at hv ⊢;obtain⟨vt,h1,h2⟩:=hv;exact⟨vt,h1,aW.ext hS h t vt h2⟩
theorem cM.ext {T:Nat->Prop} (hS:∀ g,S g->T g) (h:∀ g,S g->g<w.t->w'.e w g):∀ (l:List aL) (vs:ζ),cM S w l vs->cM T w' l vs
 | [],vs,hv=>by
  assumption
 | t::l,vs,hv=>by
  simp only[cM] at hv ⊢;obtain⟨v,r,h1,h2,h3⟩:=hv;exact⟨v,r,h1,aW.ext hS h t v h2,cM.ext hS h l r h3⟩
end
theorem cM.get :∀ {l:List aL} {vs:ζ},cM S w l vs->∀ (k:Nat) (t:aL),l[k]?=some t->∃ v,vs[k]?=some v/\aW S w t v
 | [],vs,h,k,t,hk=>by grind
 | u::l,vs,h,k,t,hk=>by
  simp only[cM] at h;obtain⟨v,r,rfl,h2,h3⟩:=h;cases k with
  | zero=>grind
  | succ k=>simp at hk;simpa using h3.get k t hk
theorem cM.snoc {t:aL} {v:Value}:∀ {l:List aL} {vs:ζ},cM S w l vs->aW S w t v->cM S w (l++[t]) (vs++[v])
 | [],vs,h,ht=>by
  grind [cM]
 | u::l,vs,h,ht=>by
  simp only[cM] at h;obtain⟨x,r,rfl,h2,h3⟩:=h;exact⟨x,r++[v],rfl,h2,h3.snoc ht⟩
theorem aW.below {t:aL} {v:Value} (h:aW S w t v) (hb:w.u w'):aW S w' t v:=h.ext (λ_ h=>h) (λg _ hg=>hb.block g hg)
theorem cM.below {t:List aL} {v:ζ} (h:cM S w t v) (hb:w.u w'):cM S w' t v:=h.ext (λ_ h=>h) (λg _ hg=>hb.block g hg)
def plF:aL->FuncId
 | .cL _=>191
 | .row _=>192
 | .either _ _=>193
 | .rep _ _ _=>194
mutual
theorem nW:∀ t:aL,0<=cE t/\cE t<=100
 | .cL _=>by simp[cE]
 | .row l=>by rw[cE];exact zbr l 0 zo zo
 | .either a b=>by
  have:=nW a;have:=nW b;rw[cE];omega
 | .rep t _ _=>by rw[cE];exact nW t
theorem zbr:∀ (l:List aL) (n:Int),0<=n->n<=100->0<=iX l n/\iX l n<=100
 | [],n,h1,h2=>by grind [iX]
 | t::l,n,h1,h2=>by
  have:=nW t;rw[iX];exact zbr l _ zo zo
end
theorem zbI:∀ (l:List aL) (t:aL) (n:Int),iX (l++[t]) n=min 100 (iX l n+cE t)
 | [],t,n=>by rfl
 | u::l,t,n=>by simp only[List.cons_append,iX];exact zbI l t _
def fU:aL->TypeId
 | .cL _=>240
 | .row _=>242
 | .either _ _=>244
 | .rep _ _ _=>246
def PlC (t:aL):Prop:=∀ (v:Value) (S:Nat->Prop) (w:ω),aW S w t v->∃ x,v=Δ (fU t) x/\Γ (plF t) #[x] w λr w'=>r=ρ (ι (cE t))/\w.u w'
theorem pl_cls (l:θ):PlC (.cL l):=by
 intro v S w h;simp only[aW] at h;obtain⟨sl,rfl,h2,_⟩:=h;refine⟨_,rfl,?_⟩;unfold plF;clear h2;go_enter func191,ntmps191;go_wp2;go_ret;exact⟨rfl,iM⟩
theorem lS {B:Nat} {a b:ω} (h:Below B a b) (n:Nat):Below B a (b.drewN n):=⟨h.os,h.tape,h.output,h.size,h.block⟩
theorem jH (t:aL) (n:Nat) (x:Value) (w:ω):(method (n+1) (fU t) x "Places").run prog w=.ok (plF t,x) w:=by
 cases t<;>simp only[fU,plF]<;>go_invoke<;>rfl
theorem jD (t:aL) (x:Array Value) (w:ω):(callFunc (plF t) x).run prog w=.ok (.enter (plF t) x) w:=by
 cases t<;>simp only[plF]<;>kernel_rfl
theorem pl_rep (t:aL) (m:Int) (o:Bool) (ih:PlC t):PlC (.rep t m o):=by
 intro v S w h;simp only[aW] at h;obtain⟨vt,rfl,h2⟩:=h;refine⟨_,rfl,?_⟩;have h3:=h2.below (Ξ w (Ω #[vt,ι m,φ o] 246));have ih3:=ih vt S _ h3;have XT:cE (.rep t m o)=cE t:=by rw[cE]
 have V3:w.u (κ w (Ω #[vt,ι m,φ o] 246)):=Ξ w _;rw[XT];clear ih h3 XT;show Γ 194 _ _ _;obtain⟨x,rfl,hc⟩:=ih3;have HC:=zh hc;clear h2 hc;go_in;go_wp2_with (first|(rw[jH];go_upon)|(rw[jD];go_simp)|(refine HC.o.mono ?_;rintro e w2 ⟨rfl,Hm⟩));go_ret;exact⟨rfl,V3.trans (Hm.mono V3.size)⟩
theorem pl_either (a b:aL) (jv:PlC a) (ihb:PlC b):PlC (.either a b):=by
 intro v S w h;simp only[aW] at h;obtain⟨va,vb,rfl,h2,h3⟩:=h;refine⟨_,rfl,?_⟩;have V3:w.u (κ w (Ω #[va,vb] 244)):=Ξ w _;obtain⟨xa,rfl,_⟩:=jv va S w h2;obtain⟨xb,rfl,_⟩:=ihb vb S w h3;have ca:∀ w',w.u w'->Γ (plF a) #[xa] w' λr w2=>r=ρ (ι (cE a))/\w'.u w2:=by
  intro w' hb;obtain⟨_,h,hc⟩:=jv _ S w' (h2.below hb);cases h;exact hc
 have cb:∀ w',w.u w'->Γ (plF b) #[xb] w' λr w2=>r=ρ (ι (cE b))/\w'.u w2:=by
  intro w' hb;obtain⟨_,h,hc⟩:=ihb _ S w' (h3.below hb);cases h;exact hc
 have XT:cE (.either a b)=min 100 (cE a+cE b):=by rw[cE]
 have:=nW a;have hb:=nW b;rw[XT];clear jv ihb XT h2 h3;generalize cE a=pa at*;generalize cE b=pb at*;have:IntKind.i64.wrap (pa+pb)=pa+pb:=by go_arith
 have CA:=zh ca;have CB:=zh cb;clear ca cb;show Γ 193 _ _ _;go_in;go_wp2;have Yg:∀ w2 n,Below ((κ w (Ω #[Value.iface (fU a) xa,Value.iface (fU b) xb] 244)).drewN n).t ((κ w (Ω #[Value.iface (fU a) xa,Value.iface (fU b) xb] 244)).drewN n) w2->w2.v w.t 1 (Δ (fU b) xb):=by
  intro w2 n h;rw[h.cell (p:=(w.y 1)) zs];exact bF _ _ _ _ _ (0,0) ((aV w (Ω #[Value.iface (fU a) xa,Value.iface (fU b) xb] 244) w.t).trans (zP rfl))
 go_region_with (first|(rw[jH];go_upon)|(rw[jD];go_simp)|(refine (CA.o _ (by exact lS V3 1)).mono ?_;rintro e w2 ⟨rfl,Hm⟩;have:=Yg _ 1 Hm)|(refine (CB.o _ (by exact (lS V3 1).trans (‹Below _ _ _›.mono (lS V3 1).size))).mono ?_;rintro e w3 ⟨rfl,Hu⟩))
 all_goals go_wp2
 all_goals go_ret
 all_goals exact⟨(by rfl),(lS V3 1).trans ((Hm.mono (lS V3 1).size).trans (Hu.mono (zT (lS V3 1).size Hm.size)))⟩
theorem zgS (l:List aL) (k:Nat) (t:aL) (h:l[k]?=some t):iX (l.take (k+1)) 0=min 100 (iX (l.take k) 0+cE t):=by
 grind [List.take_add_one,zbI]
theorem pl_row (l:List aL) (ih:∀ t∈l,PlC t):PlC (.row l):=by
 intro v S w h;simp only[aW] at h;obtain⟨sl,vs,rfl,h2,h3,h4⟩:=h;refine⟨_,rfl,?_⟩;have XT:cE (.row l)=iX l 0:=by rw[cE]
 have IH:=zh ih;have H2:=zh h2;have H4:=zh h4;have yn:=aY h2;have ni:(I l:Int)<=9223372036854775807:=by
  exact zzBB
 rw[XT];clear ih h2 h3 h4 XT;show Γ 192 _ _ _
 rcases yn with⟨rfl,hn⟩|⟨g,cap,rfl,Xi,hg⟩
 . have QZ:l=[]:=List.eq_nil_of_length_eq_zero hn
   subst QZ;go_in;go_wp2;refine wp_loop_rounds 1 ?_;rw[rounds_succ];go_wp2;go_ret;simp_all[iX,zBr]
 go_in
 go_wp2;go_loopw [2,7] (λo i wr=>∃ (k:Nat),k<=I l/\i=ι k/\o=ι (iX (l.take k) 0)/\w.u wr) (λ_ i _=>I l-(ϑ i).toNat)
 case atStart=>grind [iX,zBr]
 case round=>
  obtain⟨k,hk,rfl,rfl,hB⟩:=hrel;by_cases Hf:k<I l
  . have hz:=zt k (I l)
    obtain⟨t,ht⟩:=zG l k Hf;obtain⟨u,hu,DS⟩:=H4.o.get k t ht;have c0:=aJ (aN H2.o hB) _ _ hu;obtain⟨x,rfl,hc⟩:=IH.o t (zM ht) _ S wr (DS.below hB);have Qq:=zgS l k t ht;have Qd:=zbr (l.take k) 0 zo zo;have yf:=nW t;have JS:=zh Qq;have HC:=zh hc;have HB:=zh hB;generalize hA:iX (l.take k) 0=pa at*;generalize hT:cE t=pt at*;have hw:IntKind.i64.wrap (pa+pt)=pa+pt:=by go_arith
    clear Qq hc hB ht hu DS hA hT;go_wp2_with (first|(rw[jH];go_upon)|(rw[jD];go_simp)|(refine HC.o.mono ?_;rintro e w2 ⟨rfl,Hm⟩));go_roundw
    case rel=>exact⟨k+1,zo,by go_num,by rw[JS.o],HB.o.trans (Hm.mono HB.o.size)⟩
    grind [RowKit.intOf]
  go_wp2
  go_ret;have QF:k=I l:=zo
  simp_all
theorem kE:∀ t:aL,PlC t
 | .cL l=>pl_cls l
 | .row l=>pl_row l (λt ht=>kE t)
 | .either a b=>pl_either a b (kE a) (kE b)
 | .rep t m o=>pl_rep t m o (kE t)
end Go.Proofs.YtmfnmkccbldfpaaGreatDoor
namespace Go.Proofs.YtmfnmkccbldfpaaGreatDoor
open Go.RowKit Go.Lib Tryz
theorem zzCM {p:Prop} (h:p:=by
 simp only[aW] at hv ⊢;obtain⟨sl,h1,h2,h3⟩:=hv;exact⟨sl,h1,h2,λg hg=>⟨h3 g hg,(h2.lt g hg).2⟩⟩):p:=h
theorem zzCH {p:Prop} (h:p:=by
 have hz:=List.length_pos_iff.2 QZ
 rcases aY hK.cL with⟨_,h⟩|⟨g,cap,h,_⟩
 . omega
 exact⟨g,cap,h,zx⟩):p:=h
theorem zzAz {p:Prop} (h:p:=by
 go_wp2_with (first|(go_at_call 118;refine hP.mono ?_;rintro e w1 ⟨rfl,Hk⟩));refine⟨rfl,?_⟩;rw[HC.o];exact⟨rfl,aH Hk _⟩):p:=h
variable {bp q B W F:Nat} {s:η} {w wr w' a b:ω} {l:θ} {sl v:Value} {S:Nat->Prop} {t:aL} {vs:ζ}
theorem edge' (bp:Nat) (s:η) (p:Nat) (w:ω) (h:PS bp s p w):
 Γ 161 #[π bp] w (Out bp s w (λc v _=>v=ξ c) (oX s p)):=
 edge_any bp s p w h λw hw=>zdL bp s p w hw
structure CK (bp:Nat) (s:η) (w:ω) (l:θ) (q:Nat) (sl:Value) (wr:ω):Prop where
 cL:gV wr sl l
 fresh:∀ g,β sl=some g->w.t<=g
 nil:l=[]->sl=ν
 ps:PS bp s q wr
 grown:w.g wr bp
theorem CK.below (h:CK bp s w l q sl wr) (hb:wr.u w'):CK bp s w l q sl w':=
 ⟨zgl h.cL hb,h.fresh,h.nil,h.ps.below hb,aC h.grown (aH hb _)⟩
theorem CK.next {q':Nat} (h:CK bp s w l q sl wr) (vz:bp<w.t) (hg:wr.g w' bp) (hp:PS bp s q' w'):CK bp s w l q' sl w':=
 ⟨aU h.cL (λg Vq=>hg.block g (h.cL.lt g Vq).2 (by have:=h.fresh g Vq;grind)),h.fresh,h.nil,hp,aC h.grown hg⟩
theorem CK.alloc (h:CK bp s w l q sl wr) (o:Obj):CK bp s w l q sl (κ wr o):=
 h.below (Ξ wr o)
theorem pP {r:Option Nat} (hg:a.grownBy b r) (hr:∀ g,r=some g->w.t<=g) (hs:w.heap.size<=a.heap.size) (h:w.g a bp):w.g b bp:=
 ⟨hg.os.trans h.os,hg.tape.trans h.tape,hg.output.trans h.output,zT h.size hg.size,λk hk Dt=>(hg.block k (zLd hk hs) (λe=>zg)).trans (h.block k hk Dt)⟩
theorem PS.apart {p:Nat} {r:Option Nat} (h:PS bp s p a) (hg:a.grownBy b r) (hr:∀ g,r=some g->bp<g):PS bp s p b:=
 ⟨(hg.block bp h.lt (λe=>zg)).trans h.aQ,zbz h.tabs λx hx=>World.cell?_of_block (w:=a) (hg.block x.block (by have:=h.lt;have:=h.glob;omega) (λe=>by have:=hr _ e.symm;have:=h.glob;omega)),h.glob,h.size,h.le⟩
theorem CK.append {v':Value} {x1 x2:Int} (h:CK bp s w l q sl wr) (vz:bp<w.t)
 (Hb:w'.r 251 2 v' (I l+1) (flat l++[ξ x1,ξ x2])) (hg:wr.grownBy w' (β sl)) (hb:β v'=β sl\/β v'=some wr.heap.size):CK bp s w (l++[(x1,x2)]) q v' w':=
 ⟨rP Hb,iB hb h.fresh h.grown.size,λe=>absurd e zs,h.ps.apart hg (λg At=>by have:=h.fresh g At;omega),pP hg h.fresh h.grown.size h.grown⟩
theorem CK.lt (h:CK bp s w l q sl wr):∀ g,β sl=some g->g<wr.t:=λg hg=>(h.cL.lt g hg).2
theorem CK.set (h:CK bp s w l q sl wr) (hB:∀ g,β sl=some g->g≠B) (hw:w.t<=B) (vz:bp<w.t) (o:Nat) (v:Value):CK bp s w l q sl (ς wr (B.p o) v):=
 have hg:=bQ wr B o v
 ⟨aU h.cL (λg Vq=>hg.block g (h.lt g Vq) (λe=>hB g Vq zg)),h.fresh,h.nil,h.ps.apart hg (λg e=>zg),pP hg (λg e=>zg) h.grown.size h.grown⟩
theorem zbg {o:Obj} (h:a.heap[B]?=some o) (hb:a.u b):b.heap[B]?=some o:=zfk hb B o h
theorem nN {o:Obj} (h:a.heap[B]?=some o) (hg:a.g b bp) (qg:B≠bp):b.heap[B]?=some o:=(hg.block B (aA h) (λe=>qg zg)).trans h
theorem jQ {p:Nat} {c:Int} (h:cQ s p=.ok c) (h0:0<=c) (h1:c<128):qW s p=.ok (c,p+1):=by
 rw[qW,h];have:(δ s p).2=1:=by
  rcases zaY h with hd|⟨KU,tX,Pe⟩
  . omega
  grind [iL]
 grind
theorem zc7 (s:η) (f p:Nat) (l:θ):eH s (f+1) p l=
 if l=[] then
  match kV s p with
  | .error e=>.error e
  | .ok (x,q)=>eH s f q (l++[x])
 else
  match cQ s p with
  | .error e=>.error e
  | .ok c=>
   if c=93 then .ok (l,p) else
    match kV s p with
    | .error e=>.error e
    | .ok (x,q)=>eH s f q (l++[x]):=rfl
def ClsV (w:ω) (l:θ) (v:Value) (w':ω):Prop:=aW (λg=>w.t<=g) w' (.cL l) v
theorem class_any (bp:Nat) (s:η) (p k:Nat) (w:ω) (h:PS bp s p w) (hs:s.size<=60):
 Γ 148 #[π bp,ι k] w (Out bp s w (ClsV w) (dN s p k)):=by
 have H:=zh h;have vz:=h.lt;have qo:=h.le;cases hx:cQ s p with
 | error e=>
  have HC:zH (dN s p k=.error e):=zh (by rw[dN,hx]);have hP:=mZ bp s p w e h hx;clear h hx;go_in;exact zzAz
 | ok c0=>
  have hP:=jJ bp s p w c0 h hx;obtain⟨a1,a2,a3⟩:=zbZ hx;obtain⟨p0,Cp⟩:=zE (if c0=94 then p+1 else p)
  have YO:c0=94->qW s p=.ok (94,p+1):=by
   rintro rfl;rw[qW,hx];obtain⟨b1,b2,b3⟩:=a3 zo;have:(δ s p).2=1:=by
    have hd:=zaY hx
    rcases hd with hd|⟨KU,tX,Pe⟩
    . omega
    grind [iL]
   simp[this]
  have HC:zH (dN s p k=match eH s (s.size+2) p0 [] with
   | .error e=>.error e
   | .ok (l,q)=>if c0=94 then (if jR l=[] then .error (3,k) else .ok (jR l,q+1)) else .ok (l,q+1)):=zh (by rw[dN,hx,Cp];rfl)
  have HD:=zh YO;have Wq:=zh Cp;clear YO Cp h hx a3;go_in;have START:zH (∀ w1,w.u w1->PS bp s p w1):=zh λw1 hb=>H.o.below hb;have hcut:((c0==94)=true/\c0=94)\/((c0==94)=false/\¬ c0=94):=by
   by_cases h:c0=94
   . grind
   grind
  rcases hcut with⟨hz,Ek⟩|⟨hz,Ek⟩
  focus
   go_wp2_with (first|(go_at_call 118;refine hP.mono ?_;rintro e w1 ⟨rfl,Hk⟩;have Cq:=zh (START.o _ Hk))|(go_at_call 119;refine (nG bp s p _ 94 (p+1) Cq.o (HD.o Ek)).mono ?_;rintro e w2 ⟨rfl,Yc,qk⟩));have T4:=Wq.o;rw[zP Ek] at T4;rw[<-T4] at Yc;have Qp:=aC (aH Hk _) qk;clear T4 qk;have HK0:=zh (⟨qD _ _ _,λg hg=>(by simp[Value.ownBlock] at hg),λ_=>rfl,Yc,Qp⟩:CK bp s w [] p0 ν w2);clear Yc Qp Cq Hk;clear START hP
  rotate_left
  focus
   go_wp2_with (first|(go_at_call 118;refine hP.mono ?_;rintro e w2 ⟨rfl,Hk⟩));have Yc:=START.o _ Hk;have T4:=Wq.o;rw[zN Ek] at T4;rw[<-T4] at Yc;have HK0:=zh (⟨qD _ _ _,λg hg=>(by simp[Value.ownBlock] at hg),λ_=>rfl,Yc,aH Hk _⟩:CK bp s w [] p0 ν w2);clear Yc Hk T4;clear START hP
  all_goals
   clear HD Wq a1 a2 hz;generalize hR:eH s (s.size+2) p0 []=R at*;go_loopg [6] (s.size+2) (λgh sl wr=>∃ (l:θ) (q f:Nat),f=gh/\f+I l=s.size+2/\I l<=q/\(∀ x∈l,0<=x.1/\x.1<=1114111/\0<=x.2/\x.2<=1114111/\x.1<=x.2)/\R=eH s f q l/\CK bp s w l q sl wr)
   case atStart=>exact⟨[],p0,s.size+2,rfl,rfl,rC,λx hx=>absurd hx List.not_mem_nil,hR.symm,HK0.o⟩
   case round=>
    obtain⟨l,q,f,oe,Yi,hlq,XP,Hy,hK⟩:=hrel;have HK:=zh hK;have VR:=hK.ps.le;have AT:=zh XP;have Fl:=zh oe;obtain⟨g,hg⟩:∃ g,f=g+1:=⟨f-1,zo⟩;have Tl:=zh hg;rw[hg,zc7] at Hy;clear oe hg XP;by_cases hit:l=[]\/∃ c,cQ s q=.ok c/\c≠93
    . have Q9:zH (R=match kV s q with
       | .error e=>.error e
       | .ok (x,q)=>eH s g q (l++[x])):=by
       refine zh ?_;rw[Hy]
       rcases hit with QZ|⟨c,hc,Jh⟩
       . rw[zP QZ]
       rw[hc]
       simp only[zN Jh,ite_self]
      clear Hy;have Ho:(l=[]/\u6=ν)\/(l≠[]/\(∃ c,cQ s q=.ok c/\c≠93)/\∃ g cap,u6=σ g (I l) cap/\((I l:Int)==0)=false):=by
       by_cases QZ:l=[]
       . exact .inl ⟨QZ,hK.nil QZ⟩
       refine .inr ⟨QZ,hit.resolve_left QZ,?_⟩
       exact zzCH
      clear hit
      rcases Ho with⟨QZ,Rp⟩|⟨QZ,⟨c1,Yg,Jh⟩,gg,cap,Rp,hz⟩
      focus
       subst Rp;generalize wr=w2 at*;have VX:=HK;clear HK hK;obtain⟨d0,d1,f1⟩:=VX.o.ps.cells;go_wp2_with fail
      rotate_left
      focus
       subst Rp;have Z1:(c1 != 93)=true:=by simp[Jh]
       go_wp2_with (first|(go_at_call 118;refine (jJ bp s q _ c1 HK.o.ps Yg).mono ?_;rintro e w2 ⟨rfl,Hk⟩;have VX:=zh (HK.o.below Hk);obtain⟨d0,d1,f1⟩:=VX.o.ps.cells));clear Z1 Hk HK hK hz
      all_goals
       clear d0 d1 f1;cases hi:oX s q with
       | error e=>
        have hX:dN s p k=.error e:=by rw[HC.o,Q9.o,kV,hi]
        refine (edge' bp s q _ VX.o.ps).mono ?_;intro r w3 hr;rw[hi] at hr;obtain⟨rfl,ye⟩:=hr;refine⟨rfl,?_⟩;rw[hX];exact⟨rfl,aC VX.o.grown ye⟩
       | ok loq=>
        obtain⟨lo,q1⟩:=loq;have HI:=zh hi;refine (edge' bp s q _ VX.o.ps).mono ?_;intro r w3 hr;rw[hi] at hr;obtain⟨v,rfl,rfl,yo,ye⟩:=hr;have tI:=zh (VX.o.next vz ye yo);clear yo ye VX hi;go_wp2_with fail;have Tn:=zh (tI.o.alloc (Ω #[ξ lo,ξ lo] 251));have qu:=(aV w3 (Ω #[ξ lo,ξ lo] 251) w3.t).trans (zP rfl);have mo:=tI.o.lt;have dv:w.heap.size<=w3.heap.size:=tI.o.grown.size;clear tI
        generalize w3.alloc (Ω #[ξ lo,ξ lo] 251)=w4 at*;generalize w3.heap.size=B at*;have Sh:B≠bp:=zo
        have yg:=zh mo;clear mo;cases qx:cQ s q1 with
        | error e=>
         have hX:dN s p k=.error e:=by rw[HC.o,Q9.o,kV,HI.o];simp only;rw[qx]
         refine (mZ bp s q1 _ e Tn.o.ps qx).mono ?_;rintro r w5 ⟨rfl,Qn⟩;refine⟨rfl,?_⟩;rw[hX];exact⟨rfl,aC Tn.o.grown (aH Qn _)⟩
        | ok c2=>
         have Qx:=zh qx;by_cases Bc:c2=45
         . subst Bc
           have Kd:=zh (jQ qx zd zd);clear qx;refine (jJ bp s q1 _ 45 Tn.o.ps Qx.o).mono ?_;rintro r w5 ⟨rfl,Qn⟩;have JQ:=zh (Tn.o.below Qn);have Cc:=zbg qu Qn;clear qu Qn Tn;go_wp2_with (go_at_call 119;refine (nG bp s q1 _ 45 (q1+1) JQ.o.ps Kd.o).mono ?_;rintro e w6 ⟨rfl,DD,Kn⟩);have Kw:=zh (JQ.o.next vz Kn DD);have MF:=nN Cc Kn Sh;clear Cc Kn DD JQ Kd;cases Yj:oX s (q1+1) with
           | error e=>
            have hX:dN s p k=.error e:=by rw[HC.o,Q9.o,kV,HI.o];simp only;rw[Qx.o];simp only[zP];rw[Yj]
            refine (edge' bp s (q1+1) _ Kw.o.ps).mono ?_;intro r w7 hr;rw[Yj] at hr;obtain⟨rfl,Dn⟩:=hr;refine⟨rfl,?_⟩;rw[hX];exact⟨rfl,aC Kw.o.grown Dn⟩
           | ok hiq=>
            obtain⟨hi,q2⟩:=hiq;have Tm:=zh Yj;refine (edge' bp s (q1+1) _ Kw.o.ps).mono ?_;intro r w7 hr;rw[Yj] at hr;obtain⟨v,rfl,rfl,O0,Dn⟩:=hr;have ec:=zh (Kw.o.next vz Dn O0);have d9:=nN MF Dn Sh;clear MF O0 Dn Kw Yj;have uk:=zh (ec.o.set (λg hg=>Nat.ne_of_lt (yg.o g hg)) dv vz 1 (ξ hi));have MG:=aB w7 B 1 (ξ hi) _ _ _ d9;have hfr7:=bN w7 B 1 _ _ d9;have hc7:=bF w7 B 1 _ _ _ d9;have ZU:=bF _ B 0 _ _ _ MG
            have ZV:=bF _ B 1 _ _ _ MG;simp only[zLa] at hc7 ZU ZV;clear d9;by_cases Hf:hi<lo
            . have hX:dN s p k=.error (3,q):=by rw[HC.o,Q9.o,kV,HI.o];simp only;rw[Qx.o];simp only[zP];rw[Tm.o];simp only[zP Hf]
              have HX:=zh hX;clear hX;go_wp2_with (go_at_call 99;refine (eK 3 q _).mono ?_;rintro e w' ⟨rfl,rfl⟩);refine⟨rfl,?_⟩;rw[HX.o];exact⟨rfl,uk.o.grown⟩
            have U4:kV s q=.ok ((lo,hi),q2):=by rw[kV,HI.o];simp only;rw[Qx.o];simp only[zP];rw[Tm.o];simp only[zN Hf]
            have Bt:=zh U4;have Vb:=zbW U4 zo;simp only at Vb;clear U4;go_wp2_with (at_builtin;refine dM rfl oE rfl (by exact (uk.o.alloc _).cL) [ξ lo,ξ hi] zo ?_;intro v' w' Q0 QQ Y3);have ul:=(uk.o.alloc _).append vz Q0 QQ Y3;go_roundg g
            case rel=>
             refine⟨l++[(lo,hi)],q2,g,rfl,by have:=Tl.o;have:=Fl.o;simp;omega,zx,?_,?_,ul⟩
             . intro x hx
               rcases List.mem_append.1 hx with hx|hx
               . exact AT.o x hx
               have:=List.mem_singleton.1 hx;grind
             . rw[Q9.o,Bt.o]
            all_goals (have:=Tl.o;have:=Fl.o;omega)
         have hX:kV s q=.ok ((lo,lo),q1):=by rw[kV,HI.o];simp only;rw[qx];simp only[zN Bc]
         have Bt:=zh hX;have Vb:=zbW hX zo;simp only at Vb;clear hX qx;refine (jJ bp s q1 _ c2 Tn.o.ps Qx.o).mono ?_;rintro r w5 ⟨rfl,Qn⟩;have JQ:=zh (Tn.o.below Qn);have Cc:=zbg qu Qn;have ZR:=bF w5 B 0 _ _ _ Cc;have ZS:=bF w5 B 1 _ _ _ Cc;simp only[zLa] at ZR ZS;have hne45:(c2==45)=false:=by simp[Bc]
         clear qu Qn Tn Cc;go_wp2_with (at_builtin;refine dM rfl oE rfl (by exact (JQ.o.alloc _).cL) [ξ lo,ξ lo] zo ?_;intro v' w' Q0 QQ Y3);have ul:=(JQ.o.alloc _).append vz Q0 QQ Y3;go_roundg g
         case rel=>
          refine⟨l++[(lo,lo)],q1,g,rfl,by have:=Tl.o;grind,zg,?_,?_,ul⟩
          . intro x hx
            rcases List.mem_append.1 hx with hx|hx
            . exact AT.o x hx
            have:=List.mem_singleton.1 hx;subst this;simp only;omega
          . rw[Q9.o,Bt.o]
         all_goals (have:=Tl.o;have:=Fl.o;omega)
    have QZ:l≠[]:=λe=>hit (.inl e)
    obtain⟨gg,cap,Rp,hz⟩:∃ g cap,u6=σ g (I l) cap/\((I l:Int)==0)=false:=by
     exact zzCH
    subst Rp;rw[zN QZ] at Hy;cases qx:cQ s q with
    | error e=>
     have hX:zH (dN s p k=.error e):=zh (by rw[HC.o,Hy,qx]);clear Hy;go_wp2_with (first|(go_at_call 118;refine (mZ bp s q _ e HK.o.ps qx).mono ?_;rintro e w2 ⟨rfl,Hk⟩));refine⟨rfl,?_⟩;rw[hX.o];exact⟨rfl,aC HK.o.grown (aH Hk _)⟩
    | ok c1=>
     have Yg:c1=93:=by
      by_cases h:c1=93
      . exact h
      exact absurd (.inr ⟨c1,qx,h⟩) hit
     subst Yg;have yi:R=.ok (l,q):=by rw[Hy,qx];rfl
     have Kd:=zh (jQ qx zd zd);have Qx:=zh qx;have QL:=zh yi;clear Hy qx yi hit hK;go_wp2_with (first|(go_at_call 118;refine (jJ bp s q _ 93 HK.o.ps Qx.o).mono ?_;rintro e w2 ⟨rfl,Hk⟩;have VX:=zh (HK.o.below Hk))|(go_at_call 119;refine (nG bp s q _ 93 (q+1) VX.o.ps Kd.o).mono ?_;rintro e w6 ⟨rfl,DD,Kn⟩;have Kw:=zh (VX.o.next vz Kn DD)))
     first
     | (have xw:¬ c0=94:=Ek
        have hX:=HC.o;rw[QL.o] at hX;simp only[zN xw] at hX;have HX:=zh hX;clear hX xw;go_ret;rw[HX.o];exact⟨_,rfl,by unfold ClsV;simp only[aW];exact⟨_,rfl,Kw.o.cL,Kw.o.fresh⟩,Kw.o.ps,Kw.o.grown⟩)
     | (have hX:=HC.o
        rw[QL.o] at hX;simp only[zP Ek] at hX;refine (rest_any _ l _ Kw.o.cL zo (λx hx=>by have:=AT.o x hx;omega) (λx hx=>(AT.o x hx).2.2.2.2)).mono ?_;rintro r w7 ⟨v',rfl,UR,hf7,yv⟩;have CF:=zh (Kw.o.ps.below yv);have N7:=zh (aC Kw.o.grown (aH yv (some bp)));have Lu:zH (∀ g,β v'=some g->w.t<=g):=zh λg hg=>zT Kw.o.grown.size (hf7 g hg);have yn:=aY UR;have Yq:=zh UR;clear UR hf7 yv Kw;by_cases iq:jR l=[]
        . rw[zP iq] at hX
          have HX:=zh hX;clear hX;rw[iq] at yn
          rcases yn with⟨rfl,_⟩|⟨gx,capx,rfl,_⟩
          all_goals
           go_wp2_with (go_at_call 99;refine (eK 3 k _).mono ?_;rintro e w' ⟨rfl,rfl⟩);refine⟨rfl,?_⟩;rw[HX.o];exact⟨rfl,N7.o⟩
        rw[zN iq] at hX
        have HX:=zh hX;have S1:=List.length_pos_iff.2 iq;clear hX
        rcases yn with⟨_,h⟩|⟨gx,capx,rfl,_⟩
        . omega
        have hzz:((I (jR l):Int)==0)=false:=zx
        go_wp2;go_ret;rw[HX.o];exact⟨_,rfl,by unfold ClsV;simp only[aW];exact⟨_,rfl,Yq.o,Lu.o⟩,CF.o,N7.o⟩)
abbrev Fr (W:Nat):Nat->Prop:=λg=>W<=g
mutual
theorem aW.live :∀ (t:aL) (v:Value),aW S w t v->aW (λg=>S g/\g<w.t) w t v
 | .cL l,v,hv=>by
  exact zzCM
 | .row l,v,hv=>by
  simp only[aW] at hv ⊢;obtain⟨sl,vs,h1,h2,h3,h4⟩:=hv;exact⟨sl,vs,h1,h2,λg hg=>⟨h3 g hg,(h2.lt g hg).2⟩,cM.live l vs h4⟩
 | .either a b,v,hv=>by
  simp only[aW] at hv ⊢;obtain⟨va,vb,h1,h2,h3⟩:=hv;exact⟨va,vb,h1,aW.live a va h2,aW.live b vb h3⟩
 | .rep t m o,v,hv=>by
  simp only[aW] at hv ⊢;obtain⟨vt,h1,h2⟩:=hv;exact⟨vt,h1,aW.live t vt h2⟩
theorem cM.live :∀ (l:List aL) (vs:ζ),cM S w l vs->cM (λg=>S g/\g<w.t) w l vs
 | [],vs,hv=>by
  assumption
 | t::l,vs,hv=>by
  simp only[cM] at hv ⊢;obtain⟨v,r,h1,h2,h3⟩:=hv;exact⟨v,r,h1,aW.live t v h2,cM.live l r h3⟩
end
theorem aW.weak {T:Nat->Prop} (h:aW S w t v) (hS:∀ g,S g->g<w.t->T g):aW T w t v:=
 (h.live t v).ext (λg hg=>hS g hg.1 hg.2) (λ_ _ _=>rfl) t v
theorem cM.weak {T:Nat->Prop} {t:List aL} {v:ζ} (h:cM S w t v) (hS:∀ g,S g->g<w.t->T g):cM T w t v:=
 (h.live t v).ext (λg hg=>hS g hg.1 hg.2) (λ_ _ _=>rfl) t v
theorem aW.grown (h:aW (Fr W) w t v) (vz:bp<W) (hg:w.g w' bp):aW (Fr W) w' t v:=
 h.ext (λ_ h=>h) (λg hS Hf=>hg.block g Hf (λe=>zg)) t v
theorem pX (m:Int) (o:Bool) (h:aW S w t v):aW S w (.rep t m o) (Δ 246 (.agg #[v,ι m,φ o])):=by
 grind [aW]
theorem zbC {l:List aL} (h:w.r 165 1 sl (I l) vs) (hs:∀ g,β sl=some g->S g) (ht:cM S w l vs):aW S w (.row l) (Δ 242 sl):=by
 grind [aW]
theorem zdT (h:gV w sl l) (hs:∀ g,β sl=some g->S g):aW S w (.cL l) (Δ 240 sl):=by
 grind [aW]
theorem zeU {a b:aL} {va vb:Value} (ha:aW S w a va) (hb:aW S w b vb):aW S w (.either a b) (Δ 244 (.agg #[va,vb])):=by
 grind [aW]
theorem zdg {m:Int} {o:Bool} (h:aW S w (.rep t m o) (Δ 246 (.agg #[v,ι m,φ o]))):aW S w t v:=by
 grind [aW]
theorem cM.rep (h:aW S w t v):∀ k,cM S w (ψ k t) (ψ k v)
 | 0=>by rfl
 | k+1=>by simp only[List.replicate_succ,cM];exact⟨_,_,rfl,h,cM.rep h k⟩
theorem set_last {α:Type} (k:Nat) (v u:α):(ψ (k+1) v).set k u=ψ k v++[u]:=by
 simp_all[List.replicate_succ']
structure RK (F W:Nat) (l:List aL) (vs:ζ) (sl:Value) (wr:ω):Prop where
 row:wr.r 165 1 sl (I l) vs
 fresh:∀ g,β sl=some g->F<=g
 tR:cM (λg=>W<=g/\β sl≠some g) wr l vs
theorem RK.nil (F W:Nat) (wr:ω):RK F W [] [] ν wr:=
 ⟨qD _ _ _,λg h=>by simp[Value.ownBlock] at h,zr⟩
theorem RK.below {l:List aL} (h:RK F W l vs sl wr) (hb:wr.u w'):RK F W l vs sl w':=
 ⟨aN h.row hb,h.fresh,h.tR.below hb⟩
theorem RK.alloc {l:List aL} (h:RK F W l vs sl wr) (o:Obj):RK F W l vs sl (κ wr o):=
 h.below (Ξ wr o)
theorem RK.grown {l:List aL} (h:RK F W l vs sl wr) (hF:bp<F) (hW:bp<W) (hg:wr.g w' bp):RK F W l vs sl w':=
 ⟨aU h.row (λg Vq=>hg.block g (h.row.lt g Vq).2 (λe=>by cases e;have:=h.fresh _ Vq;omega)),h.fresh,h.tR.ext (λ_ h=>h) (λg hS Hf=>hg.block g Hf (λe=>zg)) l vs⟩
theorem aW.notIn (h:aW (λg=>W<=g/\β sl≠some g) wr t v):aW (Fr W) wr t v:=
 h.weak λg hg _=>hg.1
theorem RK.append {l:List aL} {v':Value} (h:RK F W l vs sl wr) (hF:F<=wr.t) (ht:aW (λg=>W<=g/\β sl≠some g) wr t v)
 (Hb:w'.r 165 1 v' (I l+1) (vs++[v])) (hg:wr.grownBy w' (β sl)) (hb:β v'=β sl\/β v'=some wr.heap.size):
 RK F W (l++[t]) (vs++[v]) v' w'/\aW (λg=>W<=g/\β v'≠some g) w' t v:=by
 have hT:∀ g,(W<=g/\β sl≠some g)/\g<wr.t->W<=g/\β v'≠some g:=by
  rintro g ⟨⟨h1,h2⟩,h3⟩;refine⟨h1,?_⟩
  rcases hb with e|e
  . grind
  grind
 have hU:∀ g,(W<=g/\β sl≠some g)/\g<wr.t->g<wr.t->w'.e wr g:=λg hs Hf=>hg.block g Hf (λe=>hs.1.2 e.symm);have h2:=(ht.live t v).ext hT hU t v;refine⟨⟨zg,iB hb h.fresh hF,?_⟩,h2⟩;exact ((h.tR.live l vs).ext hT hU l vs).snoc h2
theorem zeb:eO prog 242 165 1 16:=
 eO.of (z:=.nilIface) underlying242 zK rfl zd
