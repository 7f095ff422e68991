/- Part of a proof. No condition. -/
import Derived.Deep.RegionWith
import Derived.Test.YtghpmhllpaheiaaGreatDoorF11
set_option linter.unusedVariables false
set_option linter.unusedSimpArgs false
set_option maxRecDepth 100000
set_option maxHeartbeats 4000000
namespace Go.Proofs.YtghpmhllpaheiaaGreatDoor
open Go.RowKit Go.Lib
variable {S:Nat->Prop} {w w':World}
mutual
def aX (S:Nat->Prop) (w:World):aJ->Value->Prop
 | .cL l,v=>∃ sl,v=.iface 200 sl/\fN w sl l/\(∀ g,sl.ownBlock=some g->S g)
 | .row l,v=>∃ sl vs,v=.iface 202 sl/\w.ownsRow 0 138 1 sl l.length vs/\(∀ g,sl.ownBlock=some g->S g)/\bS S w l vs
 | .either a b,v=>∃ va vb,v=.iface 204 (.agg #[va,vb])/\aX S w a va/\aX S w b vb
 | .rep t m o,v=>∃ vt,v=.iface 206 (.agg #[vt,.int .i64 m,.bool o])/\aX S w t vt
def bS (S:Nat->Prop) (w:World):List aJ->List Value->Prop
 | [],vs=>vs=[]
 | t::l,vs=>∃ v r,vs=v::r/\aX S w t v/\bS S w l r
end
mutual
theorem aX.ext {T:Nat->Prop} (hS:∀ g,S g->T g) (h:∀ g,S g->g<w.heap.size->w'.heap[g]?=w.heap[g]?):∀ (t:aJ) (v:Value),aX S w t v->aX T w' t v
 | .cL l,v,hv=>by
  simp only[aX] at hv ⊢;obtain⟨sl,h1,h2,h3⟩:=hv;exact⟨sl,h1,aU h2 (λg hg=>h g (h3 g hg) (h2.lt g hg).2),λg hg=>hS g (h3 g hg)⟩
 | .row l,v,hv=>by
  simp only[aX] at hv ⊢;obtain⟨sl,vs,h1,h2,h3,h4⟩:=hv;exact⟨sl,vs,h1,aU h2 (λg hg=>h g (h3 g hg) (h2.lt g hg).2),λg hg=>hS g (h3 g hg),bS.ext hS h l vs h4⟩
 | .either a b,v,hv=>by
  simp only[aX] at hv ⊢;obtain⟨va,vb,h1,h2,h3⟩:=hv;exact⟨va,vb,h1,aX.ext hS h a va h2,aX.ext hS h b vb h3⟩
 | .rep t m o,v,hv=>by
  simp only[aX] at hv ⊢;obtain⟨vt,h1,h2⟩:=hv;exact⟨vt,h1,aX.ext hS h t vt h2⟩
theorem bS.ext {T:Nat->Prop} (hS:∀ g,S g->T g) (h:∀ g,S g->g<w.heap.size->w'.heap[g]?=w.heap[g]?):∀ (l:List aJ) (vs:List Value),bS S w l vs->bS T w' l vs
 | [],vs,hv=>by
  simp only[bS] at hv ⊢;exact hv
 | t::l,vs,hv=>by
  simp only[bS] at hv ⊢;obtain⟨v,r,h1,h2,h3⟩:=hv;exact⟨v,r,h1,aX.ext hS h t v h2,bS.ext hS h l r h3⟩
end
theorem bS.len :∀ {l:List aJ} {vs:List Value},bS S w l vs->vs.length=l.length
 | [],vs,h=>by simp only[bS] at h;subst h;rfl
 | t::l,vs,h=>by
  simp only[bS] at h;obtain⟨v,r,rfl,_,h3⟩:=h;simp[h3.len]
theorem bS.get :∀ {l:List aJ} {vs:List Value},bS S w l vs->∀ (k:Nat) (t:aJ),l[k]?=some t->∃ v,vs[k]?=some v/\aX S w t v
 | [],vs,h,k,t,hk=>by simp at hk
 | u::l,vs,h,k,t,hk=>by
  simp only[bS] at h;obtain⟨v,r,rfl,h2,h3⟩:=h;cases k with
  | zero=>simp at hk;subst hk;exact⟨v,rfl,h2⟩
  | succ k=>simp at hk;simpa using h3.get k t hk
theorem bS.snoc {t:aJ} {v:Value}:∀ {l:List aJ} {vs:List Value},bS S w l vs->aX S w t v->bS S w (l++[t]) (vs++[v])
 | [],vs,h,ht=>by
  simp only[bS] at h;subst h;exact⟨v,[],rfl,ht,rfl⟩
 | u::l,vs,h,ht=>by
  simp only[bS] at h;obtain⟨x,r,rfl,h2,h3⟩:=h;exact⟨x,r++[v],rfl,h2,h3.snoc ht⟩
theorem aX.below {t:aJ} {v:Value} (h:aX S w t v) (hb:Below w.heap.size w w'):aX S w' t v:=h.ext (λ_ h=>h) (λg _ hg=>hb.block g hg)
theorem bS.below {t:List aJ} {v:List Value} (h:bS S w t v) (hb:Below w.heap.size w w'):bS S w' t v:=h.ext (λ_ h=>h) (λg _ hg=>hb.block g hg)
def plF:aJ->FuncId
 | .cL _=>216
 | .row _=>217
 | .either _ _=>218
 | .rep _ _ _=>219
mutual
theorem lD:∀ t:aJ,0<=bT t/\bT t<=100
 | .cL _=>by simp[bT]
 | .row l=>by rw[bT];exact yH l 0 (by omega) (by omega)
 | .either a b=>by
  have:=lD a;have:=lD b;rw[bT];omega
 | .rep t _ _=>by rw[bT];exact lD t
theorem yH:∀ (l:List aJ) (n:Int),0<=n->n<=100->0<=fD l n/\fD l n<=100
 | [],n,h1,h2=>by rw[fD];exact⟨h1,h2⟩
 | t::l,n,h1,h2=>by
  have:=lD t;rw[fD];exact yH l _ (by omega) (by omega)
end
theorem sA:∀ (l:List aJ) (t:aJ) (n:Int),fD (l++[t]) n=min 100 (fD l n+bT t)
 | [],t,n=>by simp[fD]
 | u::l,t,n=>by simp only[List.cons_append,fD];exact sA l t _
def eP:aJ->TypeId
 | .cL _=>200
 | .row _=>202
 | .either _ _=>204
 | .rep _ _ _=>206
def PlC (t:aJ):Prop:=∀ (v:Value) (S:Nat->Prop) (w:World),aX S w t v->∃ x,v=.iface (eP t) x/\Calls Tryz.prog (plF t) #[x] w λr w'=>r=.returned (.int .i64 (bT t))/\Below w.heap.size w w'
theorem pl_cls (l:List (Int×Int)):PlC (.cL l):=by
 intro v S w h;simp only[aX] at h;obtain⟨sl,rfl,h2,_⟩:=h;refine⟨_,rfl,?_⟩;unfold plF;clear h2;go_enter Tryz.func216,Tryz.ntmps216;go_wp2;go_ret;exact⟨rfl,zBr _ _⟩
theorem jM {B:Nat} {a b:World} (h:Below B a b) (n:Nat):Below B a (b.drewN n):=⟨h.os,h.tape,h.output,h.size,h.block⟩
theorem iD (t:aJ) (n:Nat) (x:Value) (w:World):(method (n+1) (eP t) x "Places").run Tryz.prog w=.ok (plF t,x) w:=by
 cases t<;>simp only[eP,plF]<;>go_invoke<;>rfl
theorem iA (t:aJ) (x:Array Value) (w:World):(callFunc (plF t) x).run Tryz.prog w=.ok (.enter (plF t) x) w:=by
 cases t<;>simp only[plF]<;>kernel_rfl
theorem pl_rep (t:aJ) (m:Int) (o:Bool) (ih:PlC t):PlC (.rep t m o):=by
 intro v S w h;simp only[aX] at h;obtain⟨vt,rfl,h2⟩:=h;refine⟨_,rfl,?_⟩;have h3:=h2.below ((zBr _ w).alloc (zR _) (.cells #[vt,.int .i64 m,.bool o] 206));have ih3:=ih vt S _ h3;have xp:bT (.rep t m o)=bT t:=by rw[bT]
 have VA:Below w.heap.size w (w.alloc (.cells #[vt,.int .i64 m,.bool o] 206)):=(zBr _ w).alloc (zR _) _;rw[xp];clear ih h3 xp;show Calls Tryz.prog 219 _ _ _;obtain⟨x,rfl,hc⟩:=ih3;have HC:=zh hc;clear h2 hc;go_enter Tryz.func219,Tryz.ntmps219;go_wp2_with (first|(rw[iD];go_upon)|(rw[iA];go_simp)|(refine HC.o.mono ?_;rintro e w2 ⟨rfl,Hr⟩));go_ret;exact⟨rfl,VA.trans (Hr.mono VA.size)⟩
theorem pl_either (a b:aJ) (VZ:PlC a) (ihb:PlC b):PlC (.either a b):=by
 intro v S w h;simp only[aX] at h;obtain⟨va,vb,rfl,h2,h3⟩:=h;refine⟨_,rfl,?_⟩;have VA:Below w.heap.size w (w.alloc (.cells #[va,vb] 204)):=(zBr _ w).alloc (zR _) _;obtain⟨xa,rfl,_⟩:=VZ va S w h2;obtain⟨xb,rfl,_⟩:=ihb vb S w h3;have ca:∀ w',Below w.heap.size w w'->Calls Tryz.prog (plF a) #[xa] w' λr w2=>r=.returned (.int .i64 (bT a))/\Below w'.heap.size w' w2:=by
  intro w' hb;obtain⟨_,h,hc⟩:=VZ _ S w' (h2.below hb);cases h;exact hc
 have cb:∀ w',Below w.heap.size w w'->Calls Tryz.prog (plF b) #[xb] w' λr w2=>r=.returned (.int .i64 (bT b))/\Below w'.heap.size w' w2:=by
  intro w' hb;obtain⟨_,h,hc⟩:=ihb _ S w' (h3.below hb);cases h;exact hc
 have xp:bT (.either a b)=min 100 (bT a+bT b):=by rw[bT]
 have ha:=lD a;have hb:=lD b;rw[xp];clear VZ ihb xp h2 h3;generalize bT a=pa at*;generalize bT b=pb at*;have hw:IntKind.i64.wrap (pa+pb)=pa+pb:=by go_arith
 have CA:=zh ca;have CB:=zh cb;clear ca cb;show Calls Tryz.prog 218 _ _ _;go_enter Tryz.func218,Tryz.ntmps218;go_wp2;have yu:∀ w2 n,Below ((w.alloc (.cells #[Value.iface (eP a) xa,Value.iface (eP b) xb] 204)).drewN n).heap.size ((w.alloc (.cells #[Value.iface (eP a) xa,Value.iface (eP b) xb] 204)).drewN n) w2->w2.cell? ⟨w.heap.size,1,none⟩=some (.iface (eP b) xb):=by
  intro w2 n h;rw[h.cell (p:=⟨w.heap.size,1,none⟩) (by simp[World.drewN])];exact aB _ _ _ _ _ (0,0) ((aN w (.cells #[Value.iface (eP a) xa,Value.iface (eP b) xb] 204) w.heap.size).trans (zP rfl))
 go_region_with (first|(rw[iD];go_upon)|(rw[iA];go_simp)|(refine (CA.o _ (by exact jM VA 1)).mono ?_;rintro e w2 ⟨rfl,Hr⟩;have f1:=yu _ 1 Hr)|(refine (CB.o _ (by exact (jM VA 1).trans (‹Below _ _ _›.mono (jM VA 1).size))).mono ?_;rintro e w3 ⟨rfl,Qi⟩))
 all_goals go_wp2
 all_goals go_ret
 all_goals exact⟨(by first|(show Ending.returned (Value.int _ (pa+pb))=_;congr 2;simp only[hw] at*;omega)|(show Ending.returned (Value.int _ 100)=_;congr 2;simp only[hw] at*;omega)),(jM VA 1).trans ((Hr.mono (jM VA 1).size).trans (Qi.mono (zT (jM VA 1).size Hr.size)))⟩
theorem zeb (l:List aJ) (k:Nat) (t:aJ) (h:l[k]?=some t):fD (l.take (k+1)) 0=min 100 (fD (l.take k) 0+bT t):=by
 rw[List.take_add_one,h];exact sA _ _ _
theorem pl_row (l:List aJ) (ih:∀ t∈l,PlC t):PlC (.row l):=by
 intro v S w h;simp only[aX] at h;obtain⟨sl,vs,rfl,h2,h3,h4⟩:=h;refine⟨_,rfl,?_⟩;have xp:bT (.row l)=fD l 0:=by rw[bT]
 have IH:=zh ih;have H2:=zh h2;have H4:=zh h4;have yv:=bD h2;have A9:(l.length:Int)<=9223372036854775807:=by
  have:l.length<=maxLen:=by rcases h2.2 with⟨_,h⟩|⟨_,_,_,_,_,_,h,h',_⟩<;>omega
  unfold maxLen at this;omega
 rw[xp];clear ih h2 h3 h4 xp;show Calls Tryz.prog 217 _ _ _
 rcases yv with⟨rfl,hn⟩|⟨g,cap,rfl,Xp,hg⟩
 . have QG:l=[]:=List.eq_nil_of_length_eq_zero hn
   subst QG;go_enter Tryz.func217,Tryz.ntmps217;go_wp2;refine wp_loop_rounds 1 ?_;rw[rounds_succ];go_wp2;go_ret;exact⟨by rw[fD];rfl,zBr _ _⟩
 go_enter Tryz.func217,Tryz.ntmps217
 go_wp2;go_loopw [2,7] (λo i wr=>∃ (k:Nat),k<=l.length/\i=.int .i64 k/\o=.int .i64 (fD (l.take k) 0)/\Below w.heap.size w wr) (λ_ i _=>l.length-(RowKit.intOf i).toNat)
 case atStart=>exact⟨0,by omega,rfl,by rw[List.take_zero,fD],zBr _ _⟩
 case round=>
  obtain⟨k,hk,rfl,rfl,hB⟩:=hrel;by_cases Hf:k<l.length
  . have hz:(k:Int)<(l.length:Int):=by omega
    obtain⟨t,ht⟩:=zG l k Hf;obtain⟨u,hu,Cs⟩:=H4.o.get k t ht;have c0:=aE (aZ H2.o hB) _ _ hu;obtain⟨x,rfl,hc⟩:=IH.o t (zM ht) _ S wr (Cs.below hB);have Qu:=zeb l k t ht;have qz:=yH (l.take k) 0 (by omega) (by omega);have Qy:=lD t;have jw:=zh Qu;have HC:=zh hc;have HB:=zh hB;generalize hA:fD (l.take k) 0=pa at*;generalize hT:bT t=pt at*;have hw:IntKind.i64.wrap (pa+pt)=pa+pt:=by go_arith
    clear Qu hc hB ht hu Cs hA hT;go_wp2_with (first|(rw[iD];go_upon)|(rw[iA];go_simp)|(refine HC.o.mono ?_;rintro e w2 ⟨rfl,Hr⟩));go_roundw
    case rel=>exact⟨k+1,by omega,by go_num,by rw[jw.o];congr 1;omega,HB.o.trans (Hr.mono HB.o.size)⟩
    case measure=>simp[RowKit.intOf];omega
  go_wp2
  go_ret;have yi:k=l.length:=by omega
  subst yi;rw[List.take_length];exact⟨rfl,hB⟩
theorem iS:∀ t:aJ,PlC t
 | .cL l=>pl_cls l
 | .row l=>pl_row l (λt ht=>iS t)
 | .either a b=>pl_either a b (iS a) (iS b)
 | .rep t m o=>pl_rep t m o (iS t)
