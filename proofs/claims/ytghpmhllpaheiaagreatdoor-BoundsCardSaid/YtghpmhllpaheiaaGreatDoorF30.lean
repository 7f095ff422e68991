/- Part of a proof. No condition. -/
import Derived.Test.YtghpmhllpaheiaaGreatDoorF29
import Derived.Test.YtghpmhllpaheiaaGreatDoorF26
set_option linter.unusedVariables false
set_option linter.unusedSimpArgs false
set_option maxRecDepth 100000
set_option maxHeartbeats 40000000
namespace Go.Proofs.YtghpmhllpaheiaaGreatDoor
open Go.RowKit Go.Lib
variable {pb:Nat} {v:Value} {w:World}
structure Nd where
 k:Nat
 r:Value
 rl:List (Int×Int)
 a:Nat
 b:Nat
 n:Nat
def fU (l:List Nd):List Value:=l.flatMap λd=>[.int .i64 d.k,d.r,.int .i64 d.a,.int .i64 d.b,.int .i64 d.n]
def eQ (l:List (Int×Int)):List Value:=l.flatMap λr=>[.int .i64 r.1,.int .i64 r.2]
structure Pr where
 aQ:Nat
 e:Nat
 wh:Nat
 ns:List Nd
def bJ (b:Nat):Value:=.pointer (some ⟨b,0,none⟩)
structure eW (B pb:Nat) (s:ByteArray) (x:Pr) (lv:Value) (w:World):Prop where
 blk:w.heap[pb]?=some (.cells #[.string s,.int .i64 x.aQ,.int .i64 x.e,.int .i64 x.wh,lv] 266 (0,0))
 row:w.ownsRow 0 301 5 lv x.ns.length (fU x.ns)
 low:0<B/\B<=pb/\∀ g,lv.ownBlock=some g->B<=g/\g≠pb
 sz:s.size<=60/\x.aQ<=s.size/\x.wh<=60/\x.e<=14
 rg:∀ d∈x.ns,w.ownsRow 0 304 2 d.r d.rl.length (eQ d.rl)/\∀ g,d.r.ownBlock=some g->B<=g/\g≠pb/\lv.ownBlock≠some g
 nb:∀ d∈x.ns,d.n<=100
structure PK (pb:Nat) (v v':Value) (w w':World):Prop where
 os:w'.os=w.os
 tape:w'.tape=w.tape
 output:w'.output=w.output
 size:w.heap.size<=w'.heap.size
 keep:∀ b,b<w.heap.size->b≠pb->v.ownBlock≠some b->w'.heap[b]?=w.heap[b]?
 new:∀ g,v'.ownBlock=some g->v.ownBlock=some g\/w.heap.size<=g
theorem PK.refl (pb:Nat) (v:Value) (w:World):PK pb v v w w:=⟨rfl,rfl,rfl,zR _,λ_ _ _ _=>rfl,λ_ h=>.inl h⟩
theorem PK.trans {b1 b2 b3:Value} {u v:World} (h:PK pb b1 b2 u v) (k:PK pb b2 b3 v w):PK pb b1 b3 u w:=
 ⟨k.os.trans h.os,k.tape.trans h.tape,k.output.trans h.output,zT h.size k.size,
  λb hb h1 h3=>(k.keep b (zLd hb h.size) h1 (λe=>by rcases h.new b e with e|e;exact h3 e;omega)).trans (h.keep b hb h1 h3),
  λg hg=>by
   rcases k.new g hg with e|e
   . exact h.new g e
   exact .inr (zT h.size e)⟩
theorem PK.of_below {u:World} (h:Below u.heap.size u w):PK pb v v u w:=⟨h.os,h.tape,h.output,h.size,λb hb _ _=>h.block b hb,λ_ h=>.inl h⟩
theorem PK.below {B:Nat} {v':Value} {w':World} (h:PK pb v v' w w') (hB:B<=w.heap.size) (hp:B<=pb) (hv:∀ g,v.ownBlock=some g->B<=g):Below B w w':=
 ⟨h.os,h.tape,h.output,h.size,λb hb=>h.keep b (by omega) (by omega) (λe=>by have:=hv b e;omega)⟩
theorem PK.set (o:Nat) (u:Value):PK pb v v w (w.setCell ⟨pb,o,none⟩ u):=
 ⟨rfl,rfl,rfl,by simp[World.setCell],λb _ h _=>aG _ _ _ _ h,λ_ h=>.inl h⟩
section
variable {B pb:Nat} {s:ByteArray} {x:Pr} {lv:Value} {w w':World}
theorem eW.lt (h:eW B pb s x lv w):pb<w.heap.size:=aA h.blk
theorem eW.rlt (h:eW B pb s x lv w):∀ g,lv.ownBlock=some g->g<w.heap.size:=λg hg=>by
 rcases bD h.row with⟨e,_⟩|⟨g',cap,e,_,hl⟩
 . rw[e] at hg;cases hg
 rw[e] at hg;cases hg;exact hl
theorem uR {l:List (Int×Int)} (h:w.ownsRow 0 304 2 v l.length (eQ l)):∀ g,v.ownBlock=some g->g<w.heap.size:=λg hg=>by
 rcases bD h with⟨e,_⟩|⟨g',cap,e,_,hl⟩
 . rw[e] at hg;cases hg
 rw[e] at hg;cases hg;exact hl
theorem eW.below (h:eW B pb s x lv w) (hb:Below w.heap.size w w'):eW B pb s x lv w':=
 ⟨(hb.block pb h.lt).trans h.blk,aU h.row λg hg=>hb.block g (h.rlt g hg),h.low,h.sz,λd hd=>⟨aU (h.rg d hd).1 λg hg=>hb.block g (uR (h.rg d hd).1 g hg),(h.rg d hd).2⟩,h.nb⟩
theorem eW.set (h:eW B pb s x lv w) (o:Nat) (u:Value) (y:Pr) (hc:(#[.string s,.int .i64 x.aQ,.int .i64 x.e,.int .i64 x.wh,lv]:Array Value).setIfInBounds o u=#[.string s,.int .i64 y.aQ,.int .i64 y.e,.int .i64 y.wh,lv]) (hn:y.ns=x.ns) (hz:y.aQ<=s.size/\y.wh<=60/\y.e<=14):
 eW B pb s y lv (w.setCell ⟨pb,o,none⟩ u):=by
 have hk:∀ g,g≠pb->(w.setCell ⟨pb,o,none⟩ u).heap[g]?=w.heap[g]?:=λg hg=>aG _ _ _ _ hg;refine⟨by rw[aC w pb o u _ _ _ h.blk,hc],?_,h.low,⟨h.sz.1,hz.1,hz.2.1,hz.2.2⟩,?_,by rw[hn];exact h.nb⟩
 . rw[hn]
   exact aU h.row λg hg=>hk g (h.low.2.2 g hg).2
 rw[hn]
 exact λd hd=>⟨aU (h.rg d hd).1 λg hg=>hk g ((h.rg d hd).2 g hg).2.1,(h.rg d hd).2⟩
theorem eW.cells (h:eW B pb s x lv w):w.cell? ⟨pb,0,none⟩=some (.string s)/\w.cell? ⟨pb,1,none⟩=some (.int .i64 x.aQ)/\w.cell? ⟨pb,2,none⟩=some (.int .i64 x.e)/\w.cell? ⟨pb,3,none⟩=some (.int .i64 x.wh)/\w.cell? ⟨pb,4,none⟩=some lv:=
 ⟨by rw[aB _ _ 0 _ _ _ h.blk];rfl,by rw[aB _ _ 1 _ _ _ h.blk];rfl,by rw[aB _ _ 2 _ _ _ h.blk];rfl,by rw[aB _ _ 3 _ _ _ h.blk];rfl,by rw[aB _ _ 4 _ _ _ h.blk];rfl⟩
end
def eH (x:Pr) (e wh:Nat):Pr:=if x.e=0 then {x with e:=e,wh:=wh} else x
def PrO (B pb:Nat) (s:ByteArray) (y:Pr) (lv:Value) (w w':World):Prop:=eW B pb s y lv w'/\PK pb lv lv w w'
theorem gP (B pb:Nat) (s:ByteArray) (x:Pr) (lv:Value) (w:World) (h:eW B pb s x lv w) (e wh:Nat) (he:e<=14) (hw:wh<=60):
 Calls Tryz.prog 126 #[bJ pb,.int .i64 e,.int .i64 wh] w λe' w'=>e'=.returned (.tuple #[])/\PrO B pb s (eH x e wh) lv w w':=by
 obtain⟨c0,c1,c2,c3,c4⟩:=h.cells;have HP:=zh h;have f2:=aM w pb 2 _ _ h.blk;by_cases h0:x.e=0
 . rw[h0] at c2
   have hy:eH x e wh={x with e:=e,wh:=wh}:=by unfold eH;rw[zP h0]
   have h1:=h.set 2 (.int .i64 e) {x with e:=e} (by simp) rfl ⟨h.sz.2.1,h.sz.2.2.1,he⟩;have h2:=h1.set 3 (.int .i64 wh) {x with e:=e,wh:=wh} (by simp) rfl ⟨h.sz.2.1,hw,he⟩;have f3:=aM _ pb 3 _ _ h1.blk;have hk:=(PK.set (pb:=pb) (v:=lv) 2 (w:=w) (.int .i64 e)).trans (PK.set (pb:=pb) (v:=lv) 3 (.int .i64 wh));have H2:=zh (zAi h2 (zAi hk hy));clear h1 h2 hk hy h0 h;unfold bJ;go_enter Tryz.func126,Tryz.ntmps126;go_wp2_with (fail);go_end0;exact⟨rfl,by rw[H2.o.2.2];exact H2.o.1,H2.o.2.1⟩
 have z:((x.e:Int)==0)=false:=by simp;omega
 have hy:eH x e wh=x:=by unfold eH;rw[zN h0]
 have HY:=zh hy;clear h hy h0;unfold bJ;go_enter Tryz.func126,Tryz.ntmps126;go_wp2_with (fail);go_end0;exact⟨rfl,by rw[HY.o];exact HP.o,PK.refl _ _ _⟩
theorem zeU (s:ByteArray) (p:Nat) (hp:p<=s.size):bQ (s.extract p s.size) 0=bQ s p:=by
 have hz:(s.extract p s.size).size=s.size-p:=by simp
 unfold bQ;rw[mV,hz];by_cases h:p<s.size
 . rw[zP (by omega),zP h]
 rw[zN (by omega),zN h]
theorem mJ (s:ByteArray) (p:Nat) (hp:p<=s.size):p+(bQ s p).2<=s.size/\ -1<=(bQ s p).1/\(bQ s p).1<=1114111/\(bQ s p).2<=4:=by
 unfold bQ;by_cases h:p<s.size
 . rw[zP h]
   by_cases hb:(Utf8.decode s p).1=65533/\(Utf8.decode s p).2=1
   . rw[zP hb];dsimp only;omega
   rw[zN hb]
   obtain⟨c,k,hx,hh⟩:=jA s p h hb;rw[hx];dsimp only;omega
 rw[zN h];dsimp only;omega
def dR (s:ByteArray) (x:Pr):Pr:=if (bQ s x.aQ).1<0/\0<(bQ s x.aQ).2 then eH x 2 x.aQ else x
theorem gQ (B pb:Nat) (s:ByteArray) (x:Pr) (lv:Value) (w:World) (h:eW B pb s x lv w):
 Calls Tryz.prog 150 #[bJ pb] w λe' w'=>e'=.returned (.tuple #[.int .i64 (bQ s x.aQ).1,.int .i64 ((bQ s x.aQ).2:Nat)])/\PrO B pb s (dR s x) lv w w':=by
 obtain⟨c0,c1,c2,c3,c4⟩:=h.cells;have hz:=h.sz;have ho:=λw'=>one_any (s.extract x.aQ s.size) w';rw[zeU s x.aQ h.sz.2.1] at ho;have Qt:=mJ s x.aQ h.sz.2.1;have Qj:zH (dR s x=if (bQ s x.aQ).1<0/\0<(bQ s x.aQ).2 then eH x 2 x.aQ else x):=zh rfl;generalize dR s x=y at Qj ⊢;generalize VI:bQ s x.aQ=cn at ho Qt Qj ⊢;obtain⟨c,n⟩:=cn;dsimp only at ho Qt Qj ⊢;have HO:=zh ho;have HP:=zh h;clear VI ho h;have z1:(x.aQ:Int)<=(s.size:Int):=by omega
 unfold bJ;by_cases hc:c<0
 . by_cases hn:0<n
   . have VL:(0:Int)<(n:Int):=by omega
     have Q3:=λk=>gP B pb s x lv (w.drewN k) (HP.o.below (aV (zBr _ w) k)) 2 x.aQ (by omega) (by omega);have J8:=zh Q3;have HY:zH (y=eH x 2 x.aQ):=zh (by rw[Qj.o,zP ⟨hc,hn⟩]);clear Q3 Qj;go_enter Tryz.func150,Tryz.ntmps150;go_wp2_with (fail);go_quiet ((go_at_call 134;exact Calls.quiet_of_same (HO.o _)));go_wp2_with (first|(go_at_call 126;refine (J8.o _).mono ?_;rintro e' w' ⟨rfl,ho⟩;have H1:=zh ho;clear ho))
     refine bodyPost_ret (v:=.tuple #[.int .i64 c,.int .i64 n]) (by simp[results,Tryz.results150,go_sem]) rfl ?_;exact⟨rfl,by rw[HY.o];exact H1.o.1,(PK.of_below (aV (zBr _ w) _)).trans H1.o.2⟩
   have VL:¬ (0:Int)<(n:Int):=by omega
   have HY:zH (y=x):=zh (by rw[Qj.o,zN (λh=>hn h.2)]);clear Qj;go_enter Tryz.func150,Tryz.ntmps150;go_wp2_with (fail);go_quiet ((go_at_call 134;exact Calls.quiet_of_same (HO.o _)));go_wp2_with (fail);refine bodyPost_ret (v:=.tuple #[.int .i64 c,.int .i64 n]) (by simp[results,Tryz.results150,go_sem]) rfl ?_;exact⟨rfl,by rw[HY.o];exact HP.o.below (aV (zBr _ w) _),PK.of_below (aV (zBr _ w) _)⟩
 have HY:zH (y=x):=zh (by rw[Qj.o,zN (λh=>hc h.1)])
 clear Qj;go_enter Tryz.func150,Tryz.ntmps150;go_wp2_with (fail);go_quiet ((go_at_call 134;exact Calls.quiet_of_same (HO.o _)));go_wp2_with (fail);refine bodyPost_ret (v:=.tuple #[.int .i64 c,.int .i64 n]) (by simp[results,Tryz.results150,go_sem]) rfl ?_;exact⟨rfl,by rw[HY.o];exact HP.o.below (aV (zBr _ w) _),PK.of_below (aV (zBr _ w) _)⟩
theorem elemNode:eY Tryz.prog 264 301 5 56:=eY.of (z:=.agg #[.int .i64 0,.slice none 0 0,.int .i64 0,.int .i64 0,.int .i64 0]) Tryz.underlying264 (by kernel_rfl) rfl (by decide)
theorem pP (l:List Nd) (i:Nat) (d:Nd) (h:l[i]?=some d):(fU l)[i*5+4]?=some (.int .i64 d.n):=by
 induction l generalizing i with
 | nil=>simp at h
 | cons a l ih=>
  have e:fU (a::l)=.int .i64 a.k::a.r:: .int .i64 a.a:: .int .i64 a.b:: .int .i64 a.n::fU l:=rfl;cases i with
  | zero=>simp at h;subst h;rfl
  | succ i=>
   have h':=ih i (by simpa using h);rw[e,show (i+1)*5+4=(i*5+4)+1+1+1+1+1 by omega];simpa using h'
def ndN (ns:List Nd) (i:Nat):Nat:=(ns[i]?.map (·.n)).getD 0
def nOf (ns:List Nd) (k a b:Nat):Nat:=if k=0 then 0 else if k=1 then 1 else if k<=3 then ndN ns a+ndN ns b else ndN ns a
def kY (ns:List Nd) (k:Nat) (r:Value) (rl:List (Int×Int)) (a b:Nat):Nd:=⟨k,r,rl,a,b,min 100 (nOf ns k a b)⟩
theorem ndN_le {ns:List Nd} (h:∀ d∈ns,d.n<=100) (i:Nat):ndN ns i<=100:=by
 unfold ndN;cases hi:ns[i]? with
 | none=>simp
 | some d=>exact h d (zM hi)
theorem eW.app {B:Nat} {s:ByteArray} {x:Pr} {lv:Value} (h:eW B pb s x lv w) {d:Nd} {w3 w4:World} {v4:Value} (hb:Below w.heap.size w w3) (Hb:w4.ownsRow 0 301 5 v4 (x.ns.length+1) (fU x.ns++[.int .i64 d.k,d.r,.int .i64 d.a,.int .i64 d.b,.int .i64 d.n]))
 (hg:w3.grownBy w4 lv.ownBlock) (Hz:v4.ownBlock=lv.ownBlock\/v4.ownBlock=some w3.heap.size) (hr:w.ownsRow 0 304 2 d.r d.rl.length (eQ d.rl)/\∀ g,d.r.ownBlock=some g->B<=g/\g≠pb/\lv.ownBlock≠some g) (hn:d.n<=100):
 eW B pb s {x with ns:=x.ns++[d]} v4 (w4.setCell ⟨pb,4,none⟩ v4)/\PK pb lv v4 w (w4.setCell ⟨pb,4,none⟩ v4):=by
 have lpb:=h.lt;have hs:=hb.size;have hl:=h.low;have k3:∀ g,g<w.heap.size->lv.ownBlock≠some g->w4.heap[g]?=w.heap[g]?:=λg h1 h2=>(hg.block g (by omega) (λe=>h2 e.symm)).trans (hb.block g h1);have jh:lv.ownBlock≠some pb:=λe=>(hl.2.2 pb e).2 rfl;have U7:∀ g,v4.ownBlock=some g->B<=g/\g≠pb/\(lv.ownBlock=some g\/w.heap.size<=g):=λg QE=>by
  rcases Hz with e|e
  . rw[e] at QE
    exact⟨(hl.2.2 g QE).1,(hl.2.2 g QE).2,.inl QE⟩
  rw[e] at QE
  cases QE;exact⟨by omega,by omega,.inr hs⟩
 have k5:∀ g,g<w.heap.size->g≠pb->lv.ownBlock≠some g->(w4.setCell ⟨pb,4,none⟩ v4).heap[g]?=w.heap[g]?:=λg h1 h2 h3=>(aG _ _ _ _ h2).trans (k3 g h1 h3);have PE:∀ (v:Value) (l:List (Int×Int)),(w.ownsRow 0 304 2 v l.length (eQ l)/\∀ g,v.ownBlock=some g->B<=g/\g≠pb/\lv.ownBlock≠some g)->
  (w4.setCell ⟨pb,4,none⟩ v4).ownsRow 0 304 2 v l.length (eQ l)/\∀ g,v.ownBlock=some g->B<=g/\g≠pb/\v4.ownBlock≠some g:=λv l hv=>
  ⟨aU hv.1 λg QE=>k5 g (uR hv.1 g QE) (hv.2 g QE).2.1 (hv.2 g QE).2.2,λg QE=>⟨(hv.2 g QE).1,(hv.2 g QE).2.1,λe=>by
   have h1:=uR hv.1 g QE
   rcases (U7 g e).2.2 with h2|h2
   . exact (hv.2 g QE).2.2 h2
   omega⟩⟩
 have Qc:w4.heap.size<=(w4.setCell ⟨pb,4,none⟩ v4).heap.size:=by simp[World.setCell]
 have di:fU (x.ns++[d])=fU x.ns++[.int .i64 d.k,d.r,.int .i64 d.a,.int .i64 d.b,.int .i64 d.n]:=by simp[fU]
 refine⟨⟨aC w4 pb 4 v4 _ _ _ ((k3 pb lpb jh).trans h.blk),?_,⟨hl.1,hl.2.1,λg QE=>⟨(U7 g QE).1,(U7 g QE).2.1⟩⟩,h.sz,λd' yl=> ?_,λd' yl=> ?_⟩,⟨hg.os.trans hb.os,hg.tape.trans hb.tape,hg.output.trans hb.output,zT hs (zT hg.size Qc),λg h1 h2 h3=>k5 g h1 h2 h3,λg QE=>(U7 g QE).2.2⟩⟩
 . show (w4.setCell ⟨pb,4,none⟩ v4).ownsRow 0 301 5 v4 (x.ns++[d]).length (fU (x.ns++[d]))
   rw[di,zLn];exact aU Hb λg QE=>aG _ _ _ _ (U7 g QE).2.1
 . rcases List.mem_append.1 yl with hm|hm
   . exact PE d'.r d'.rl (h.rg d' hm)
   rw[zMs] at hm
   rw[hm];exact PE d.r d.rl hr
 rcases List.mem_append.1 yl with hm|hm
 . exact h.nb d' hm
 rw[zMs] at hm
 rw[hm];exact hn
def zff (B pb:Nat) (s:ByteArray) (x:Pr) (d:Nd) (lv:Value) (w:World) (e:Ending) (w':World):Prop:=
 ∃ QU,e=.returned (.int .i64 x.ns.length)/\eW B pb s {x with ns:=x.ns++[d]} QU w'/\PK pb lv QU w w'
theorem zeT (B pb:Nat) (s:ByteArray) (x:Pr) (lv:Value) (w:World) (h:eW B pb s x lv w) (k a b:Nat) (r:Value) (rl:List (Int×Int)) (hk:k<=6) (ha:2<=k->a<x.ns.length) (hb:2<=k->k<=3->b<x.ns.length)
 (hr:w.ownsRow 0 304 2 r rl.length (eQ rl)/\∀ g,r.ownBlock=some g->B<=g/\g≠pb/\lv.ownBlock≠some g) (hl:x.ns.length<=1000000):
 Calls Tryz.prog 151 #[bJ pb,.agg #[.int .i64 k,r,.int .i64 a,.int .i64 b,.int .i64 0]] w (zff B pb s x (kY x.ns k r rl a b) lv w):=by
 obtain⟨D,hD⟩:=zE (kY x.ns k r rl a b);rw[<-hD];have T5:=zh hD;clear hD;obtain⟨ao,cap,rfl⟩:∃ ao cap,lv=.slice ao x.ns.length cap:=by
  rcases bD h.row with⟨e,e'⟩|⟨g,cap,e,_⟩
  . exact⟨none,0,by rw[e,e']⟩
  exact⟨_,_,e⟩
 have HP:=zh h;have HR:=zh hr;have hA:(w.alloc (.cells #[.int .i64 k,r,.int .i64 a,.int .i64 b,.int .i64 0] 301)).heap[w.heap.size]?=some (.cells #[.int .i64 k,r,.int .i64 a,.int .i64 b,.int .i64 0] 301 (0,0)):=bR _ _ _ rfl;have Hk:Below w.heap.size w (w.alloc (.cells #[.int .i64 k,r,.int .i64 a,.int .i64 b,.int .i64 0] 301)):=(zBr _ w).alloc (zR _) _;have lw:w.heap.size<(w.alloc (.cells #[.int .i64 k,r,.int .i64 a,.int .i64 b,.int .i64 0] 301)).heap.size:=by simp
 generalize Xe:w.alloc (.cells #[.int .i64 k,r,.int .i64 a,.int .i64 b,.int .i64 0] 301)=w1 at hA Hk lw;have Td:=Xe;have x0:w1.cell? ⟨w.heap.size,0,none⟩=some (.int .i64 k):=by rw[aB _ _ 0 _ _ _ hA];rfl
 have x2:w1.cell? ⟨w.heap.size,2,none⟩=some (.int .i64 a):=by rw[aB _ _ 2 _ _ _ hA];rfl
 have x3:w1.cell? ⟨w.heap.size,3,none⟩=some (.int .i64 b):=by rw[aB _ _ 3 _ _ _ hA];rfl
 have x4:w1.cell? ⟨w.heap.size,4,none⟩=some (.int .i64 0):=by rw[aB _ _ 4 _ _ _ hA];rfl
 have fr:∀ o,w1.frozen? ⟨w.heap.size,o,none⟩=false:=λo=>aM _ _ o _ _ hA;have HA:=zh (zAi hA Hk);have HN:=zh (zAi ha (zAi hb hl));have wi:D.r.oneCell'=true:=by
  rw[T5.o];show r.oneCell'=true
  rcases bD hr.1 with⟨e,_⟩|⟨_,_,e,_⟩<;>rw[e]<;>rfl
 have Wz:=zh wi;clear h hr ha hb hl Xe wi;unfold bJ;go_enter Tryz.func151,Tryz.ntmps151;go_upto_region 1 with (fail)
 rcases (by omega:k=0\/k=1\/(k=2\/k=3)\/(k=4\/k=5\/k=6)) with rfl|rfl|h|h
 case' inl=>
  obtain⟨nn,Kq⟩:∃ nn:Nat,nn=0:=⟨_,rfl⟩;have QO:(w1).heap[w.heap.size]?=some (.cells #[.int .i64 D.k,D.r,.int .i64 D.a,.int .i64 D.b,.int .i64 nn] 301 (0,0)):=by
   rw[Kq,T5.o];exact HA.o.1
  have Jq:D.n=min 100 nn:=by
   rw[T5.o,Kq];rfl
  have Hr:Below w.heap.size w (w1):=HA.o.2;have l2:w.heap.size<(w1).heap.size:=aA QO;have Ol:nn<=200:=by omega
  go_upto_region 11 with (fail)
  generalize C6:w1=w2 at QO Hr l2 ⊢;have EX:=zh Jq;have xj:=zh (zAi QO Hr);have y4:w2.cell? ⟨w.heap.size,4,none⟩=some (.int .i64 nn):=by rw[aB _ _ 4 _ _ _ QO];rfl
  clear Kq Jq QO Hr x0 x2 x3 x4 fr C6;go_upto_if 49 with (fail)
  obtain⟨aq,KT⟩:∃ aq:Option Addr,aq=ao:=⟨_,rfl⟩;rw[<-KT] at HP HR ⊢;have DY:=zh KT;clear KT
 case' inr.inl=>
  obtain⟨nn,Kq⟩:∃ nn:Nat,nn=1:=⟨_,rfl⟩;have QO:(w1.setCell ⟨w.heap.size,4,none⟩ (.int .i64 1)).heap[w.heap.size]?=some (.cells #[.int .i64 D.k,D.r,.int .i64 D.a,.int .i64 D.b,.int .i64 nn] 301 (0,0)):=by
   rw[Kq,T5.o];exact aC w1 w.heap.size 4 _ _ _ _ HA.o.1
  have Jq:D.n=min 100 nn:=by
   rw[T5.o,Kq];rfl
  have Hr:Below w.heap.size w (w1.setCell ⟨w.heap.size,4,none⟩ (.int .i64 1)):=HA.o.2.setCell (p:=(⟨w.heap.size,4,none⟩:Addr)) (zR _) _;have l2:w.heap.size<(w1.setCell ⟨w.heap.size,4,none⟩ (.int .i64 1)).heap.size:=aA QO;have Ol:nn<=200:=by omega
  go_upto_region 11 with (fail)
  generalize C6:w1.setCell ⟨w.heap.size,4,none⟩ (.int .i64 1)=w2 at QO Hr l2 ⊢;have EX:=zh Jq;have xj:=zh (zAi QO Hr);have y4:w2.cell? ⟨w.heap.size,4,none⟩=some (.int .i64 nn):=by rw[aB _ _ 4 _ _ _ QO];rfl
  clear Kq Jq QO Hr x0 x2 x3 x4 fr C6;go_upto_if 49 with (fail)
  obtain⟨aq,KT⟩:∃ aq:Option Addr,aq=ao:=⟨_,rfl⟩;rw[<-KT] at HP HR ⊢;have DY:=zh KT;clear KT
 case' inr.inr.inl=>
  have P0:=HN.o.1 (by omega);have Hz:=HN.o.2.1 (by omega) (by omega);obtain⟨da,Ux⟩:=zG x.ns a P0;obtain⟨db,lz⟩:=zG x.ns b Hz;obtain⟨g,rfl⟩:∃ g,ao=some ⟨g,0,none⟩:=by
   rcases bD HP.o.row with⟨_,e⟩|⟨g,cap,e,_⟩
   . omega
   cases e;exact⟨g,rfl⟩
  have Nu:=HP.o.below HA.o.2;have ca:=aE Nu.row _ _ (pP _ _ _ Ux);have cb:=aE Nu.row _ _ (pP _ _ _ lz);have cl:=Nu.cells.2.2.2.2;have lg:g<w.heap.size:=HP.o.rlt g rfl;have lpb:pb<w.heap.size:=HP.o.lt;have Oj:=HP.o.nb da (zM Ux);have ti:=HP.o.nb db (zM lz);have zA:(a:Int)<(x.ns.length:Int):=by omega
  have zB:(b:Int)<(x.ns.length:Int):=by omega
  have hws:IntKind.i64.wrap ((da.n:Int)+(db.n:Int))=(da.n:Int)+(db.n:Int):=zIn _ (by omega)
  have uc:∀ w',Below w.heap.size w1 w'->w'.cell? ⟨w.heap.size,2,none⟩=some (.int .i64 a)->w'.cell? ⟨w.heap.size,3,none⟩=some (.int .i64 b)->w'.frozen? ⟨w.heap.size,4,none⟩=false->Below w.heap.size w1 w'/\w'.cell? ⟨pb,4,none⟩=some (.slice (some ⟨g,0,none⟩) x.ns.length cap)/\w'.cell? ⟨g,a*5+4,none⟩=some (.int .i64 da.n)/\w'.cell? ⟨g,b*5+4,none⟩=some (.int .i64 db.n)/\w'.cell? ⟨w.heap.size,2,none⟩=some (.int .i64 a)/\w'.cell? ⟨w.heap.size,3,none⟩=some (.int .i64 b)/\w'.frozen? ⟨w.heap.size,4,none⟩=false/\w.heap.size<w'.heap.size:=λw' hb h2 h3 h4=>
   ⟨hb,(aL hb ⟨pb,4,none⟩ lpb).trans cl,(aL hb ⟨g,a*5+4,none⟩ lg).trans ca,(aL hb ⟨g,b*5+4,none⟩ lg).trans cb,h2,h3,h4,zLd lw hb.size⟩
  have JO:=zh uc;have HX:=zh (zAi x2 x3);have HD:=zh (zAi Ux lz);have xd4:w1.drew.cell? ⟨w.heap.size,4,none⟩=some (.int .i64 0):=x4;have fd4:w1.drew.frozen? ⟨w.heap.size,4,none⟩=false:=fr 4;have ku:∀ (v:Value),(w1.setCell ⟨w.heap.size,4,none⟩ v).cell? ⟨w.heap.size,2,none⟩=some (.int .i64 a)/\(w1.setCell ⟨w.heap.size,4,none⟩ v).cell? ⟨w.heap.size,3,none⟩=some (.int .i64 b):=λv=>
   ⟨by rw[aB _ _ 2 _ _ _ (aC w1 w.heap.size 4 v _ _ _ HA.o.1)];rfl,by rw[aB _ _ 3 _ _ _ (aC w1 w.heap.size 4 v _ _ _ HA.o.1)];rfl⟩
  have Hm:=λv:Value=>uc ((w1.setCell ⟨w.heap.size,4,none⟩ v).drew) (((zBr _ w1).setCell (p:=(⟨w.heap.size,4,none⟩:Addr)) (zR _) v).drew) (ku v).1 (ku v).2 (aM _ _ 4 _ _ (aC w1 w.heap.size 4 v _ _ _ HA.o.1));have Y4:=zh Hm;clear P0 Hz Ux lz Nu ca cb cl uc x2 x3 x4 ku Hm
  rcases h with rfl|rfl
  all_goals
   go_upto_region 6 with (fail)
   go_region_held3 (λw'=>Below w.heap.size w1 w'/\w'.cell? ⟨pb,4,none⟩=some (.slice (some ⟨g,0,none⟩) x.ns.length cap)/\w'.cell? ⟨g,a*5+4,none⟩=some (.int .i64 da.n)/\w'.cell? ⟨g,b*5+4,none⟩=some (.int .i64 db.n)/\w'.cell? ⟨w.heap.size,2,none⟩=some (.int .i64 a)/\w'.cell? ⟨w.heap.size,3,none⟩=some (.int .i64 b)/\w'.frozen? ⟨w.heap.size,4,none⟩=false/\w.heap.size<w'.heap.size) (first|exact JO.o _ (zBr _ _).drew HX.o.1 HX.o.2 (aM _ _ 4 _ _ HA.o.1)|exact Y4.o _) (fail)
   obtain⟨nn,Kq⟩:∃ nn:Nat,nn=da.n+db.n:=⟨_,rfl⟩;have QO:(w1.setCell ⟨w.heap.size,4,none⟩ (.int .i64 ((da.n:Int)+(db.n:Int)))).drew.heap[w.heap.size]?=some (.cells #[.int .i64 D.k,D.r,.int .i64 D.a,.int .i64 D.b,.int .i64 nn] 301 (0,0)):=by
    rw[Kq,T5.o];exact aC w1 w.heap.size 4 _ _ _ _ HA.o.1
   have Jq:D.n=min 100 nn:=by
    rw[T5.o,Kq];simp only[kY,nOf,ndN,HD.o.1,HD.o.2];rfl
   have Hr:Below w.heap.size w (w1.setCell ⟨w.heap.size,4,none⟩ (.int .i64 ((da.n:Int)+(db.n:Int)))).drew:=(HA.o.2.setCell (p:=(⟨w.heap.size,4,none⟩:Addr)) (zR _) _).drew;have l2:w.heap.size<(w1.setCell ⟨w.heap.size,4,none⟩ (.int .i64 ((da.n:Int)+(db.n:Int)))).drew.heap.size:=aA QO;generalize (w1.setCell ⟨w.heap.size,4,none⟩ (.int .i64 ((da.n:Int)+(db.n:Int)))).drew=w2 at QO Hr l2 ⊢;have EX:=zh Jq;have xj:=zh (zAi QO Hr)
   have y4:w2.cell? ⟨w.heap.size,4,none⟩=some (.int .i64 nn):=by rw[aB _ _ 4 _ _ _ QO];rfl
   have Ol:nn<=200:=by omega
   clear Kq Jq QO Hr xd4 fd4 x0 Oj ti;go_upto_if 49 with (fail)
   obtain⟨aq,KT⟩:∃ aq:Option Addr,aq=some ⟨g,0,none⟩:=⟨_,rfl⟩;rw[<-KT] at HP HR ⊢;have DY:=zh KT;clear KT
 case' inr.inr.inr=>
  have P0:=HN.o.1 (by omega);obtain⟨da,Ux⟩:=zG x.ns a P0;obtain⟨g,rfl⟩:∃ g,ao=some ⟨g,0,none⟩:=by
   rcases bD HP.o.row with⟨_,e⟩|⟨g,cap,e,_⟩
   . omega
   cases e;exact⟨g,rfl⟩
  have Nu:=HP.o.below HA.o.2;have ca:=aE Nu.row _ _ (pP _ _ _ Ux);have cl:=Nu.cells.2.2.2.2;have lg:g<w.heap.size:=HP.o.rlt g rfl;have lpb:pb<w.heap.size:=HP.o.lt;have Oj:=HP.o.nb da (zM Ux);have zA:(a:Int)<(x.ns.length:Int):=by omega
  have uc:∀ w',Below w.heap.size w1 w'->w'.cell? ⟨w.heap.size,2,none⟩=some (.int .i64 a)->w'.cell? ⟨w.heap.size,3,none⟩=some (.int .i64 b)->w'.frozen? ⟨w.heap.size,4,none⟩=false->Below w.heap.size w1 w'/\w'.cell? ⟨pb,4,none⟩=some (.slice (some ⟨g,0,none⟩) x.ns.length cap)/\w'.cell? ⟨g,a*5+4,none⟩=some (.int .i64 da.n)/\w'.cell? ⟨w.heap.size,2,none⟩=some (.int .i64 a)/\w'.cell? ⟨w.heap.size,3,none⟩=some (.int .i64 b)/\w'.frozen? ⟨w.heap.size,4,none⟩=false/\w.heap.size<w'.heap.size:=λw' hb h2 h3 h4=>
   ⟨hb,(aL hb ⟨pb,4,none⟩ lpb).trans cl,(aL hb ⟨g,a*5+4,none⟩ lg).trans ca,h2,h3,h4,zLd lw hb.size⟩
  have JO:=zh uc;have HX:=zh (zAi x2 x3);have HD:=zh Ux;have xd4:w1.drew.cell? ⟨w.heap.size,4,none⟩=some (.int .i64 0):=x4;have fd4:w1.drew.frozen? ⟨w.heap.size,4,none⟩=false:=fr 4;have ku:∀ (v:Value),(w1.setCell ⟨w.heap.size,4,none⟩ v).cell? ⟨w.heap.size,2,none⟩=some (.int .i64 a)/\(w1.setCell ⟨w.heap.size,4,none⟩ v).cell? ⟨w.heap.size,3,none⟩=some (.int .i64 b):=λv=>
   ⟨by rw[aB _ _ 2 _ _ _ (aC w1 w.heap.size 4 v _ _ _ HA.o.1)];rfl,by rw[aB _ _ 3 _ _ _ (aC w1 w.heap.size 4 v _ _ _ HA.o.1)];rfl⟩
  have Hm:=λv:Value=>uc ((w1.setCell ⟨w.heap.size,4,none⟩ v).drew) (((zBr _ w1).setCell (p:=(⟨w.heap.size,4,none⟩:Addr)) (zR _) v).drew) (ku v).1 (ku v).2 (aM _ _ 4 _ _ (aC w1 w.heap.size 4 v _ _ _ HA.o.1));have Y4:=zh Hm;clear P0 Ux Nu ca cl uc x2 x3 x4 ku Hm
  rcases h with rfl|rfl|rfl
  all_goals
   go_upto_region 10 with (fail)
   go_region_held3 (λw'=>Below w.heap.size w1 w'/\w'.cell? ⟨pb,4,none⟩=some (.slice (some ⟨g,0,none⟩) x.ns.length cap)/\w'.cell? ⟨g,a*5+4,none⟩=some (.int .i64 da.n)/\w'.cell? ⟨w.heap.size,2,none⟩=some (.int .i64 a)/\w'.cell? ⟨w.heap.size,3,none⟩=some (.int .i64 b)/\w'.frozen? ⟨w.heap.size,4,none⟩=false/\w.heap.size<w'.heap.size) (first|exact JO.o _ (zBr _ _).drew HX.o.1 HX.o.2 (aM _ _ 4 _ _ HA.o.1)|exact Y4.o _) (fail);obtain⟨nn,Kq⟩:∃ nn:Nat,nn=da.n:=⟨_,rfl⟩
   have QO:(w1.setCell ⟨w.heap.size,4,none⟩ (.int .i64 (da.n:Int))).drew.heap[w.heap.size]?=some (.cells #[.int .i64 D.k,D.r,.int .i64 D.a,.int .i64 D.b,.int .i64 nn] 301 (0,0)):=by
    rw[Kq,T5.o];exact aC w1 w.heap.size 4 _ _ _ _ HA.o.1
   have Jq:D.n=min 100 nn:=by
    rw[T5.o,Kq];simp only[kY,nOf,ndN,HD.o];rfl
   have Hr:Below w.heap.size w (w1.setCell ⟨w.heap.size,4,none⟩ (.int .i64 (da.n:Int))).drew:=(HA.o.2.setCell (p:=(⟨w.heap.size,4,none⟩:Addr)) (zR _) _).drew;have l2:w.heap.size<(w1.setCell ⟨w.heap.size,4,none⟩ (.int .i64 (da.n:Int))).drew.heap.size:=aA QO;generalize (w1.setCell ⟨w.heap.size,4,none⟩ (.int .i64 (da.n:Int))).drew=w2 at QO Hr l2 ⊢;have EX:=zh Jq;have xj:=zh (zAi QO Hr);have y4:w2.cell? ⟨w.heap.size,4,none⟩=some (.int .i64 nn):=by rw[aB _ _ 4 _ _ _ QO];rfl
   have Ol:nn<=200:=by omega
   clear Kq Jq QO Hr xd4 fd4 x0 Oj;go_upto_if 49 with (fail)
   obtain⟨aq,KT⟩:∃ aq:Option Addr,aq=some ⟨g,0,none⟩:=⟨_,rfl⟩;rw[<-KT] at HP HR ⊢;have DY:=zh KT;clear KT
 all_goals
  go_cut [] (λwx=>wx.heap[w.heap.size]?=some (.cells #[.int .i64 D.k,D.r,.int .i64 D.a,.int .i64 D.b,.int .i64 D.n] 301 (0,0))/\Below w.heap.size w wx)
  case first=>
   by_cases hc:100<nn
   . have z:(100:Int)<(nn:Int):=by omega
     have fr2:=aM w2 w.heap.size 4 _ _ xj.o.1;go_wp2_with (fail);go_meet;exact⟨by rw[show D.n=100 by rw[EX.o];omega];exact aC w2 w.heap.size 4 _ _ _ _ xj.o.1,xj.o.2.setCell (p:=(⟨w.heap.size,4,none⟩:Addr)) (zR _) _⟩
   . have z:¬ (100:Int)<(nn:Int):=by omega
     go_wp2_with (fail);go_meet;exact⟨by rw[show D.n=nn by rw[EX.o];omega];exact xj.o.1,xj.o.2⟩
  case rest=>
   obtain⟨YG,Qi⟩:=hcut;have Av:=HP.o.below Qi;have c4:=Av.cells.2.2.2.2;have qk:=zh Av.row;have xk:=zh (zAi YG Qi);have Qt:=HN.o.2.2
   have Cl:∀ w1,(wc.alloc (.cells #[.int .i64 D.k,D.r,.int .i64 D.a,.int .i64 D.b,.int .i64 D.n] 301)).grownBy w1 (Value.slice aq x.ns.length cap).ownBlock->(w1.cell? ⟨pb,4,none⟩=some (.slice aq x.ns.length cap)/\w1.cell? ⟨w.heap.size,0,none⟩=some (.int .i64 D.k)/\w1.cell? ⟨w.heap.size,1,none⟩=some D.r/\w1.cell? ⟨w.heap.size,2,none⟩=some (.int .i64 D.a)/\w1.cell? ⟨w.heap.size,3,none⟩=some (.int .i64 D.b)/\w1.cell? ⟨w.heap.size,4,none⟩=some (.int .i64 D.n))/\w1.frozen? ⟨pb,4,none⟩=false/\pb<w1.heap.size:=by
    intro w1 hg;have hB:=(zBr wc.heap.size wc).alloc (zR _) (.cells #[.int .i64 D.k,D.r,.int .i64 D.a,.int .i64 D.b,.int .i64 D.n] 301);have k1:=(hg.block pb (zLd Av.lt hB.size) (λe=>(Av.low.2.2 pb e.symm).2 rfl)).trans ((hB.block _ Av.lt).trans Av.blk);have k2:=(hg.block w.heap.size (zLd (aA YG) hB.size) (λe=>by have:=HP.o.rlt _ e.symm;omega)).trans ((hB.block _ (aA YG)).trans YG)
    exact⟨⟨by rw[aB w1 pb 4 _ _ _ k1];rfl,by rw[aB _ _ 0 _ _ _ k2];rfl,by rw[aB _ _ 1 _ _ _ k2];rfl,by rw[aB _ _ 2 _ _ _ k2];rfl,by rw[aB _ _ 3 _ _ _ k2];rfl,by rw[aB _ _ 4 _ _ _ k2];rfl⟩,aM w1 pb 4 _ _ k1,aA k1⟩
   have QC:=zh Cl;have JN:=zh (Cl _ (eK _ _))
   have Ck:wc.cell? ⟨pb,4,none⟩=some (.slice aq x.ns.length cap)/\wc.cell? ⟨w.heap.size,0,none⟩=some (.int .i64 D.k)/\wc.cell? ⟨w.heap.size,1,none⟩=some D.r/\wc.cell? ⟨w.heap.size,2,none⟩=some (.int .i64 D.a)/\wc.cell? ⟨w.heap.size,3,none⟩=some (.int .i64 D.b)/\wc.cell? ⟨w.heap.size,4,none⟩=some (.int .i64 D.n):=⟨c4,by rw[aB _ _ 0 _ _ _ YG];rfl,by rw[aB _ _ 1 _ _ _ YG];rfl,by rw[aB _ _ 2 _ _ _ YG];rfl,by rw[aB _ _ 3 _ _ _ YG];rfl,by rw[aB _ _ 4 _ _ _ YG];rfl⟩;clear Av Qi Cl;go_upto_region 13 with (fail)
   refine wp_region_noPanic ?_;refine cK (λw'=>w'.cell? ⟨pb,4,none⟩=some (.slice aq x.ns.length cap)/\w'.cell? ⟨w.heap.size,0,none⟩=some (.int .i64 D.k)/\w'.cell? ⟨w.heap.size,1,none⟩=some D.r/\w'.cell? ⟨w.heap.size,2,none⟩=some (.int .i64 D.a)/\w'.cell? ⟨w.heap.size,3,none⟩=some (.int .i64 D.b)/\w'.cell? ⟨w.heap.size,4,none⟩=some (.int .i64 D.n)) 10 (by kernel_rfl) Ck (λHe=> ?_);refine aH 0 He ?_;refine aH 1 He ?_;refine aH 2 He ?_;refine aH 3 He ?_;refine aH 4 He ?_;refine aH 5 He ?_;refine dA 6 (λK hK=> ?_);go_simp;refine hK.out _ _ (λ_=>JN.o.1) ?_;clear hK K He Ck c4;(try simp only[Act.put,lA,lB,lC]);refine dA 7 (λK hK=> ?_)
   refine jR (by rfl) _ _ (by rfl) elemNode (.slice aq x.ns.length cap) x.ns.length (fU x.ns) (by rfl) (by exact (aZ qk.o ((zBr _ _).alloc (zR _) _).drew)) ⟨wc.heap.size,0,none⟩ 1 1 [.int .i64 D.k,D.r,.int .i64 D.a,.int .i64 D.b,.int .i64 D.n] (by rfl) (by rfl) (cM wc #[.int .i64 D.k,D.r,.int .i64 D.a,.int .i64 D.b,.int .i64 D.n] 301 wc.heap.size rfl) (by have h1:=Wz.o;intro u hu;simp only[List.mem_cons,List.not_mem_nil,or_false] at hu;rcases hu with rfl|rfl|rfl|rfl|rfl<;>first|rfl|exact h1) (by decide) (by omega) (by decide) ?_
   intro v4 w4 Ho qj Qb;obtain⟨g4,Hx,rfl⟩:=bV Ho;have ks:=QC.o w4 ⟨qj.os,qj.tape,qj.output,qj.size,qj.block⟩;refine hK.out _ _ (λ_=>ks.1) ?_;clear hK K;(try simp only[Act.put,lA,lB,lC]);refine dA 8 (λK hK=> ?_);go_simp;refine hK.out _ _ (λ_=>ks.1) ?_;clear hK K;(try simp only[Act.put,lA,lB,lC]);refine dA 9 (λK hK=> ?_);go_simp;refine hK.out _ _ (λ_=>ks.1) ?_;clear hK K;(try simp only[Act.put,lA,lB,lC]);obtain⟨_,ks2,ks3⟩:=ks
   refine dA 10 (λK hK=> ?_);go_simp;refine hK.out _ _ (λh=>absurd rfl h) ?_;clear hK K;(try simp only[Act.put,lA,lB,lC]);refine fK (by kernel_rfl) ?_;refine NoPanic.normal ?_;have Hm:=HP.o.app (d:=D) (w3:=(wc.alloc (.cells #[.int .i64 D.k,D.r,.int .i64 D.a,.int .i64 D.b,.int .i64 D.n] 301)).drew) (lH xk.o.2 ((zBr _ _).alloc (zR _) _).drew xk.o.2.size) Ho qj Qb (by have h1:=HR.o;rw[T5.o];exact h1) (by rw[T5.o];exact Nat.min_le_left _ _);have cf:=Hm.1.cells.2.2.2.2
   have lf:=Hm.1.lt;have HF:=zh Hm;clear Ho qj Qb ks2 ks3 Hm;generalize w4.setCell ⟨pb,4,none⟩ (.slice (some ⟨g4,0,none⟩) (x.ns.length+1) Hx)=w5 at HF cf lf ⊢;go_wp2_with (fail);go_ret;exact⟨_,by go_num,HF.o.1,by rw[<-DY.o];exact HF.o.2⟩
structure R3St (w0:World) (n:Nat) (cU:List Int) (ms:List aW) (tb bc cc mb mp:Nat) (rc:List Value) (rU:List Int) (gO:List (List Int)) (vr vg:Value) (QS:List Value) (F:aW) (fb rb:Nat) (V2:Option (List aW×List Int)) (k:Nat) (tag:Nat->Nat) (sE:List aW) (row:List Int) (vs:Value) (wr:World):Prop where
 m:iG w0 n cU ms tb bc cc mb mp rc tag sE rU gO vs vr vg QS wr
 rr:wr.ownsRow 0 3 1 (.slice (some ⟨rb,0,none⟩) n n) n (dE (row++List.replicate (n-k) 0))
 tr:tag rb=7
 fs:jE wr fb F
 tf:tag fb=8
 lk:row.length=k
 rest:gM F (ms.drop k) sE row=V2
 ok:∀ s∈sE,s.Ok
 nd:sE.Nodup
 le:sE.length<=201
section
variable {w0 w w':World} {n:Nat} {cU:List Int} {ms:List aW} {tb bc cc mb mp:Nat} {rc:List Value} {tag:Nat->Nat} {sE:List aW} {rU:List Int} {gO:List (List Int)} {vs vr vg:Value} {QS:List Value} {F:aW} {fb rb:Nat} {V2:Option (List aW×List Int)} {k:Nat} {row:List Int}
theorem R3St.later (h:R3St w0 n cU ms tb bc cc mb mp rc rU gO vr vg QS F fb rb V2 k tag sE row vs w) (hb:Below w.heap.size w w'):R3St w0 n cU ms tb bc cc mb mp rc rU gO vr vg QS F fb rb V2 k tag sE row vs w':=
 ⟨h.m.later hb,aZ h.rr hb,h.tr,(hb.block fb (aA h.fs)).trans h.fs,h.tf,h.lk,h.rest,h.ok,h.nd,h.le⟩
theorem ze7 (r:List Int) (k:Nat) (x:Int):(r++List.replicate (k+1) (0:Int)).set r.length x=r++[x]++List.replicate k 0:=by
 rw[List.set_append_right _ _ (zR _),Nat.sub_self,List.replicate_succ,List.set_cons_zero,List.append_assoc];rfl
theorem R3St.store (h:R3St w0 n cU ms tb bc cc mb mp rc rU gO vr vg QS F fb rb V2 k tag sE row vs w) (hk:k<n) (x:Int) (Ha:gM F (ms.drop (k+1)) sE (row++[x])=V2):
 R3St w0 n cU ms tb bc cc mb mp rc rU gO vr vg QS F fb rb V2 (k+1) tag sE (row++[x]) vs (w.setCell ⟨rb,k,none⟩ (.int .i64 x)):=by
 have hg:w.grownBy (w.setCell ⟨rb,k,none⟩ (.int .i64 x)) (some rb):=eO _ rb k _;have qo:fb≠rb:=λe=>by have:=h.tf;rw[e,h.tr] at this;cases this
 have r1:=(h.rr.stored k (.int .i64 x)).1;have e:(dE (row++List.replicate (n-k) 0)).set k (.int .i64 x)=dE (row++[x]++List.replicate (n-(k+1)) 0):=by
  unfold dE;rw[<-List.map_set,show n-k=(n-(k+1))+1 by omega];have:=ze7 row (n-(k+1)) x;rw[h.lk] at this;rw[this]
 rw[e] at r1;exact⟨h.m.other rb (by rw[h.tr];decide) hg,r1,h.tr,(aG _ _ _ _ qo).trans h.fs,h.tf,by simp[h.lk],Ha,h.ok,h.nd,h.le⟩
theorem R3St.put {gs cs:Nat} (h:R3St w0 n cU ms tb bc cc mb mp rc rU gO vr vg QS F fb rb V2 k tag sE row (.slice (some ⟨gs,0,none⟩) sE.length cs) w) (to':aW) (Hv:to'.Ok) (XW:sE.findIdx? (λx=>decide (x=to'))=none) (Vt:sE.length<=200) {w1 w2:World} (hg:w.grownBy w1 (some mp)) (hm:yZ w1 mp (sE++[to'])) (ob:Obj) (v':Value)
 (Hb:w2.ownsRow 0 147 2 v' (sE.length+1) (setCells sE++[.int .u64 to'.1,.int .u64 to'.2])) (QJ:(w1.alloc ob).grownBy w2 (some gs)) (Hz:v'.ownBlock=some gs\/v'.ownBlock=some (w1.alloc ob).heap.size)
 (x:Int) (hk:k<n) (Ha:gM F (ms.drop (k+1)) (sE++[to']) (row++[x])=V2):
 R3St w0 n cU ms tb bc cc mb mp rc rU gO vr vg QS F fb rb V2 (k+1) (dB tag (w1.heap.size+1) 3) (sE++[to']) (row++[x]) v' (w2.setCell ⟨rb,k,none⟩ (.int .i64 x)):=by
 obtain⟨hM,xn⟩:=h.m.putApp to' hg hm ob v' Hb QJ Hz;have Ep:=h.m.t2;have lrb:=(h.rr.lt rb rfl).2;have lfb:=aA h.fs;obtain⟨k1,t1⟩:=xn rb lrb (λe=>by have:=h.tr;rw[e,Ep] at this;cases this) (by rw[h.tr];decide);obtain⟨k2,t2⟩:=xn fb lfb (λe=>by have:=h.tf;rw[e,Ep] at this;cases this) (by rw[h.tf];decide);have qf:w2.grownBy (w2.setCell ⟨rb,k,none⟩ (.int .i64 x)) (some rb):=eO _ rb k _;have qo:fb≠rb:=λe=>by have:=h.tf;rw[e,h.tr] at this;cases this
 have UZ:w2.ownsRow 0 3 1 (.slice (some ⟨rb,0,none⟩) n n) n (dE (row++List.replicate (n-k) 0)):=aU h.rr (λg hg=>by cases hg;exact k1);have r1:=(UZ.stored k (.int .i64 x)).1;have e:(dE (row++List.replicate (n-k) 0)).set k (.int .i64 x)=dE (row++[x]++List.replicate (n-(k+1)) 0):=by
  unfold dE;rw[<-List.map_set,show n-k=(n-(k+1))+1 by omega];have:=ze7 row (n-(k+1)) x;rw[h.lk] at this;rw[this]
 rw[e] at r1;rw[List.findIdx?_eq_none_iff] at XW;refine⟨hM.other rb (by rw[t1,h.tr];decide) qf,r1,t1.trans h.tr,(aG _ _ _ _ qo).trans (k2.trans h.fs),t2.trans h.tf,by simp[h.lk],Ha,λs hs=> ?_,?_,by simp;omega⟩
 . rcases List.mem_append.1 hs with hs|hs
   . exact h.ok s hs
   rw[zMs] at hs;subst hs;exact Hv
 rw[List.nodup_append]
 refine⟨h.nd,by simp,λa ha b hb e=> ?_⟩;rw[zMs] at hb;have:=XW a ha;simp at this;exact this (e.trans hb)
end
structure OSt3 (w:World) (L:gK) (n:Nat) (cU:List Int) (ms:List aW) (V:Option (List Int×List (List Int))) (tb bc cc mb mp:Nat) (rc:List Value) (f i:Nat) (tag:Nat->Nat) (sE:List aW) (rU:List Int) (gO:List (List Int)) (vs vr vg:Value) (QS:List Value) (wr:World):Prop where
 m:iG w n cU ms tb bc cc mb mp rc tag sE rU gO vs vr vg QS wr
 rest:bU L ms f sE rU gO=V
 lr:rU.length=i
 lg:gO.length=i
 ok:∀ s∈sE,s.Ok
 nd:sE.Nodup
 le:sE.length<=201
 fu:202<=f+i
def MakeV (V:Option (List Int×List (List Int))) (T:iP) (w:World) (e:Ending) (w':World):Prop:=(V=none/\e=.returned (.tuple #[.pointer none,.bool false])/\Below w.heap.size w w')\/(∃ p,V=some p)/\MakeO T w e w'
def MakeH (L:gK) (T:iP) (rU:List Int) (gO:List (List Int)):Prop:=∃ (R f:Nat) (Hj:Int) (b2:jI),WfT ⟨bB L.cL,rU,gO,0⟩ R/\bZ ⟨bB L.cL,rU,gO,0⟩ f gO.length 0 0 ⟨List.replicate gO.length 0,List.replicate gO.length 0,false⟩=some (Hj,b2)/\(∀ j,b2.far.getD j 0<=1000000)/\gO.length<1000000/\T=⟨bB L.cL,rU,gO,if b2.round then -1 else Hj+1⟩
def rowV (L:gK) (ms:List aW) (f:Nat) (rU:List Int) (gO:List (List Int)):Option (List aW×List Int)->Option (List Int×List (List Int))
 | none=>none
 | some (sets2,row)=>bU L ms f sets2 rU (gO++[row])
theorem make_v (L:gK) (bl:Nat) (w:World) (hl:rA w bl L) (vn:0<L.cL.length) (hn:L.cL.length<=65) (hr:∀ c∈L.cL,gA c) (hW:Wid w) (hG:mN<=w.heap.size) (VI:(eJ L.cL).length<1000000)
 (C8:L.rU.length=L.cL.length) (P8:L.fO.length=L.cL.length) (hfok:∀ x∈L.fO,x.Ok) (V:Option (List Int×List (List Int))) (vm:bU L ((bB L.cL).map (bG L.cL)) 202 [(1,0)] [] []=V)
 (T:iP) (hV:∀ rU gO,V=some (rU,gO)->MakeH L T rU gO):
 Calls Tryz.prog 34 #[aK bl] w (MakeV V T w):=by
 have HL:=zh hl;have HM:=zh (zAi vm hV);have HW:=zh hW;have HQ:=zh (zAi C8 (zAi P8 hfok));have yp:(bB L.cL).length<1000000:=Nat.lt_of_le_of_lt (za9 _) VI;have Ix:=zh VI;have Wx:=zh hr;clear hl vm hV hW C8 P8 hfok VI hr;go_enter Tryz.func34,Tryz.ntmps34;go_upto_region 2 with (go_at_call 60;refine (cuts_any L bl _ HL.o vn Wx.o HW.o hG Ix.o).mono ?_;rintro e w1 ⟨bc,cc,rc,rfl,qg,tj,Hk,dh⟩)
 have cy:dQ (w1.alloc (.cells #[.slice (some ⟨bc,0,none⟩) (bB L.cL).length cc,.slice none 0 0,.slice none 0 0,.int .i64 0] 76)) bc (bB L.cL).toArray rc:=(cV _ _ _ (aA qg)).trans qg;have Yv:(w1.alloc (.cells #[.slice (some ⟨bc,0,none⟩) (bB L.cL).length cc,.slice none 0 0,.slice none 0 0,.int .i64 0] 76)).heap[w1.heap.size]?=some (.cells #[.slice (some ⟨bc,0,none⟩) (bB L.cL).length cc,.slice none 0 0,.slice none 0 0,.int .i64 0] 76 (0,0)):=bR _ _ _ rfl
 have Hr:Below w.heap.size w (w1.alloc (.cells #[.slice (some ⟨bc,0,none⟩) (bB L.cL).length cc,.slice none 0 0,.slice none 0 0,.int .i64 0] 76)):=Hk.alloc Hk.size _;have tB:w.heap.size<=w1.heap.size/\bc<w1.heap.size:=⟨Hk.size,aA qg⟩;obtain⟨tb,iz⟩:=zE (w1.heap.size);rw[<-iz] at Yv tB ⊢;generalize w1.alloc (.cells #[.slice (some ⟨bc,0,none⟩) (bB L.cL).length cc,.slice none 0 0,.slice none 0 0,.int .i64 0] 76)=w2 at cy Yv Hr ⊢;clear iz qg Hk;have lt2:=aA Yv
 have GR:=make_sets (bB L.cL).length (by omega) w2;have t0:=aB _ _ 0 _ _ _ Yv;simp only[zLa,zLb] at t0;have ky:M1St w L.cL (bB L.cL) tb bc cc w2.heap.size rc 0 (w2.alloc (.cells (setCells (List.replicate (bB L.cL).length (0,0))).toArray 147)):=by
  refine⟨Hr.alloc Hr.size _,(cV _ _ _ lt2).trans Yv,(cV _ _ _ (aA cy)).trans cy,?_,by omega,by have:=aA cy;omega,by have:=aA cy;omega,tB.1,tj,Hr.size⟩;refine⟨by simp[oK],.inr ⟨w2.heap.size,_,_,rfl,zZ _,bR _ _ _ rfl,zR _,by unfold maxLen;omega,by simp[oK],?_⟩⟩;have e:(setCells (List.replicate (bB L.cL).length (0,0))).length=(bB L.cL).length*2:=by simp[oK]
  show List.take _ (setCells (List.replicate (bB L.cL).length (0,0)))=_;rw[List.take_of_length_le (by omega)];simp
 have Uh:=zh ky;have r8:=zh dh;clear dh;obtain⟨mb,JW⟩:=zE (w2.heap.size);rw[<-JW] at Uh;clear ky cy Yv Hr;go_upto_region 3 with (fail)
 rw[<-JW];generalize w2.alloc (.cells (setCells (List.replicate (bB L.cL).length (0,0))).toArray 147)=w3 at Uh ⊢;have t03:=aB _ _ 0 _ _ _ Uh.o.ht;simp only[zLa,zLb] at t03;clear t0 GR lt2 JW;go_wp2_with (fail);clear t03;go_loopw [36] (λs36 wr=>∃ i:Nat,s36=.int .i64 i/\i<=(bB L.cL).length/\M1St w L.cL (bB L.cL) tb bc cc mb rc i wr) (λs36 _=>(bB L.cL).length-(RowKit.intOf s36).toNat)
 case atStart=>exact⟨0,rfl,by omega,Uh.o⟩
 case round=>
  obtain⟨i,rfl,hi,hS⟩:=hrel;have HS:=zh hS;clear hS;by_cases Hf:i<(bB L.cL).length
  . have hz:(i:Int)<((bB L.cL).length:Int):=by omega
    obtain⟨c,hc⟩:∃ c,(bB L.cL)[i]?=some c:=⟨(bB L.cL)[i],zLe Hf⟩;have XA:wr.cell? ⟨bc,i,none⟩=some (.int .i32 c):=by
     rw[aB _ _ i _ _ _ HS.o.fCuts];simp[zGl,Hf];exact (List.getElem?_eq_some_iff.1 hc).2
    have lbc:=aA HS.o.fCuts;have Xs:rA wr bl L:=HL.o.ext HS.o.below.block;have Bm:=zh Xs;have HC:=zh hc;have Xf:=zW i (by omega);clear Xs hc;have QY:∀ w',Below wr.heap.size wr w'->(∃ u,w'.cell? ⟨mb,i*2,none⟩=some u)/\(∃ u,w'.cell? ⟨mb,i*2+1,none⟩=some u)/\w'.frozen? ⟨mb,i*2,none⟩=false/\w'.frozen? ⟨mb,i*2+1,none⟩=false/\mb<w'.heap.size:=λw' hb=>by
     have h:=(HS.o.later hb).fMs;have hl:(setCells (((bB L.cL).take i).map (bG L.cL)++List.replicate ((bB L.cL).length-i) (0,0))).length=(bB L.cL).length*2:=by
      rw[oK];simp;omega
     exact⟨⟨_,aE h (i*2) _ (zLe (by rw[hl];omega))⟩,⟨_,aE h (i*2+1) _ (zLe (by rw[hl];omega))⟩,h.frozenAt _,h.frozenAt _,(h.lt mb rfl).2⟩
    have T1:=zh QY;clear QY;go_wp2_with (first|(go_at_call 61;refine (zd0 L bl c _ (by exact Bm.o) vn (by omega)).mono ?_;rintro e w' ⟨rfl,Hv,M7⟩;obtain⟨⟨u0,m0⟩,⟨u1,m1⟩,fm0,fm1,Yl⟩:=T1.o w' M7;have wR:=zh M7;clear Hv M7;unfold nY));go_roundw
    case rel=>exact⟨i+1,by go_num,by omega,(HS.o.later wR.o).put Hf c HC.o _ rfl⟩
    case measure=>(simp[zI]<;>omega)
  have hz:¬ (i:Int)<((bB L.cL).length:Int):=by omega
  have Jm:i=(bB L.cL).length:=by omega
  subst Jm;have YA:aW.add (0,0) 0=(1,0):=by decide
  have Lw:=zh YA;have ij:jE (wr.alloc (.cells #[.int .u64 0,.int .u64 0] 147)) wr.heap.size (0,0):=bR _ _ _ rfl;have mr:=zh ij;clear YA ij;go_upto_region 11 with (go_at_call 62;refine (yN wr.heap.size 0 (0,0) _ (by exact mr.o) ⟨by decide,by decide⟩ (by decide)).mono ?_;rintro e w4 ⟨rfl,Cm,qj⟩;rw[Lw.o] at Cm;obtain⟨d0,d1⟩:=Cm.cells;have l4:=aA Cm;have Vp:=zh (zAi Cm qj);clear Cm qj)
  obtain⟨w5,X9⟩:=zE (w4.alloc (.cells #[.int .u64 1,.int .u64 0] 147));have e0:(w5.alloc (.map #[] 0)).cell? ⟨wr.heap.size,0,none⟩=some (.int .u64 1):=by
   have h1:w5.cell? ⟨wr.heap.size,0,none⟩=w4.cell? ⟨wr.heap.size,0,none⟩:=by rw[X9];exact aL ((zBr _ w4).alloc (zR _) _) _ l4
   have h2:(w5.alloc (.map #[] 0)).cell? ⟨wr.heap.size,0,none⟩=w5.cell? ⟨wr.heap.size,0,none⟩:=aL ((zBr _ w5).alloc (zR _) _) _ (by rw[X9];simp;omega);rw[h2,h1];exact d0
  have e1:(w5.alloc (.map #[] 0)).cell? ⟨wr.heap.size,1,none⟩=some (.int .u64 0):=by
   have h1:w5.cell? ⟨wr.heap.size,1,none⟩=w4.cell? ⟨wr.heap.size,1,none⟩:=by rw[X9];exact aL ((zBr _ w4).alloc (zR _) _) _ l4
   have h2:(w5.alloc (.map #[] 0)).cell? ⟨wr.heap.size,1,none⟩=w5.cell? ⟨wr.heap.size,1,none⟩:=aL ((zBr _ w5).alloc (zR _) _) _ (by rw[X9];simp;omega);rw[h2,h1];exact d1
  obtain⟨w7,Er,GP,XS⟩:=map_put (map_new w5) (λs hs=>by cases hs) (1,0) ⟨by decide,by decide⟩ rfl;have ZJ:(Instr.mapUpdate 154 (.map (some w5.heap.size)) (.agg #[.int .u64 1,.int .u64 0]) (.int .i64 0)).run Tryz.prog (w5.alloc (.map #[] 0))=.ok () w7:=Er;have hk:∀ b,b<wr.heap.size->w7.heap[b]?=wr.heap[b]?:=λb hb=>by
   have k4:=(Vp.o.2.block b (by simp;omega) (λe=>by cases e;omega)).trans (cV wr _ b hb);have k5:w5.heap[b]?=w4.heap[b]?:=by rw[X9];exact cV _ _ _ (by omega)
   have s5:w5.heap.size=w4.heap.size+1:=by rw[X9];simp
   have k7:=(XS.block b (by simp;omega) (λe=>by cases e;omega)).trans (cV w5 _ b (by omega));exact k7.trans (k5.trans k4)
  have s5:w5.heap.size=w4.heap.size+1:=by rw[X9];simp
  have Lf:iG w (bB L.cL).length (bB L.cL) ((bB L.cL).map (bG L.cL)) tb bc cc mb w5.heap.size rc (λb=>if b=tb then 1 else if b=w5.heap.size then 2 else if b=w4.heap.size then 3 else if b=bc then 6 else if b=mb then 6 else 0) [(1,0)] [] [] (.slice (some ⟨w4.heap.size,0,none⟩) 1 1) (.slice none 0 0) (.slice none 0 0) [] w7:=by
   have qo:=HS.o.ne;have kz:=aA HS.o.ht;have lbc:=aA HS.o.fCuts;have Yl:=(HS.o.fMs.lt mb rfl).2;have Hz:=HS.o.below;have OO:=XS.size;refine⟨by unfold mN at hG;omega,⟨?_,?_,?_,?_,λb hb=>(hk b (zLd hb Hz.size)).trans (Hz.block b hb)⟩,λg hg=> ?_,(hk tb kz).trans HS.o.ht,(hk bc lbc).trans HS.o.fCuts,?_,GP,?_,nL _ _ _,nL _ _ _,(λi row hr=>by simp at hr),(by rw[zP rfl]),?_,?_,(λg hg=>by cases hg),(λg hg=>by cases hg),⟨?_,?_⟩⟩
   . exact XS.os.trans ((by rw[X9];rfl:w5.os=w4.os).trans (Vp.o.2.os.trans Hz.os))
   . exact XS.tape.trans ((by rw[X9];rfl:w5.tape=w4.tape).trans (Vp.o.2.tape.trans Hz.tape))
   . exact XS.output.trans ((by rw[X9];rfl:w5.output=w4.output).trans (Vp.o.2.output.trans Hz.output))
   . have:=Hz.size;simp at OO;omega
   . have:=Hz.size
     split at hg
     . omega
     split at hg
     . omega
     split at hg
     . omega
     split at hg
     . omega
     split at hg
     . omega
     exact absurd rfl hg
   . refine aU (by simpa using HS.o.fMs) λg hg=>by cases hg;exact hk mb Yl
   . refine⟨rfl,.inr ⟨w4.heap.size,1,#[.int .u64 1,.int .u64 0],rfl,zZ _,?_,zR _,by decide,rfl,rfl⟩⟩
     refine (XS.block w4.heap.size (by simp;omega) (λe=>by injection e with e;omega)).trans ((cV w5 _ _ (by omega)).trans ?_);rw[X9];exact bR _ _ _ rfl
   . rw[zN (by omega),zP rfl]
   . intro g hg
     have QE:g=w4.heap.size:=by cases hg;rfl
     subst QE;show (if w4.heap.size=tb then 1 else if w4.heap.size=w5.heap.size then 2 else if w4.heap.size=w4.heap.size then 3 else if w4.heap.size=bc then 6 else if w4.heap.size=mb then 6 else 0)=3;rw[zN (by omega),zN (by omega),zP rfl]
   . rw[zN (by omega),zN (by omega),zN (by omega),zP rfl]
   rw[zN (by omega),zN (by omega),zN (by omega),zN (by omega),zP rfl]
  have tP:=zh Lf;have Oi:(Instr.makeMap 154 none).run Tryz.prog w5=.ok (.map (some w5.heap.size)) (w5.alloc (.map #[] 0)):=by kernel_rfl
  rw[<-X9];clear Lf Er GP XS hk X9 d0 d1 s5;obtain⟨vc,vf,vr0,qw,kx,Yt,P7,GB,A4⟩:=HL.o;rw[HQ.o.1] at GB;rw[HQ.o.2.1] at A4;obtain⟨gc,ka,rfl⟩:∃ g cap,vc=.slice (some ⟨g,0,none⟩) L.cL.length cap:=by
   rcases bD Yt with⟨_,h0⟩|⟨g,cap,e,_⟩
   . omega
   exact⟨g,cap,e⟩
  obtain⟨gf,capf,rfl⟩:∃ g cap,vf=.slice (some ⟨g,0,none⟩) L.cL.length cap:=by
   rcases bD A4 with⟨_,h0⟩|⟨g,cap,e,_⟩
   . omega
   exact⟨g,cap,e⟩
  obtain⟨gr,capr,rfl⟩:∃ g cap,vr0=.slice (some ⟨g,0,none⟩) L.cL.length cap:=by
   rcases bD GB with⟨_,h0⟩|⟨g,cap,e,_⟩
   . omega
   exact⟨g,cap,e⟩
  have Va:=zh (zAi kx (zAi GB A4));clear kx Yt P7 GB A4;go_wp2_with (fail);go_loopg [9,11] 202 (λgh s9 vv wr=>∃ (i gs cs f:Nat) (tag:Nat->Nat) (sE:List aW) (y7:List Int) (yt:List (List Int)) (vr vg:Value) (QS:List Value),s9=.slice (some ⟨gs,0,none⟩) sE.length cs/\vv=.int .i64 i/\f=gh/\OSt3 w L (bB L.cL).length (bB L.cL) ((bB L.cL).map (bG L.cL)) V tb bc cc mb w5.heap.size rc f i tag sE y7 yt s9 vr vg QS wr)
  case atStart=>
   exact⟨0,_,_,_,_,_,_,_,_,_,_,rfl,rfl,rfl,tP.o,HM.o.1,rfl,rfl,λs hs=>by rw[zMs] at hs;subst hs;exact⟨by decide,by decide⟩,List.nodup_cons.2 ⟨by simp,List.nodup_nil⟩,by decide,by decide⟩
  case round=>
   obtain⟨i,gs,cs,f9,tag,sE,y7,yt,vr,vg,QS,rfl,rfl,Su,hO⟩:=hrel;have Wf:=zh Su;clear Su;have HO:=zh hO;clear hO;by_cases Hf:i<sE.length
   . have hz:(i:Int)<(sE.length:Int):=by omega
     obtain⟨f',rfl⟩:∃ f',f9=f'+1:=by
      cases f9 with
      | zero=>have:=HO.o.fu;have:=HO.o.le;omega
      | succ k=>exact⟨k,rfl⟩
     have Ha:=HO.o.rest;rw[bU,zP (by rw[HO.o.lr];exact Hf),HO.o.lr] at Ha;obtain⟨s,hs⟩:=zE (sE.getD i (0,0));rw[<-hs] at Ha;have Et:sE[i]?=some s:=by rw[hs,zLf,zLe Hf];rfl
     have io:s.Ok:=HO.o.ok s (zM Et);have Kd:=zh Ha;have BC:=zh (zAi Et io);have Qt:=HO.o.le;clear Ha hs Et io;go_upto_region 17 with (fail)
     have eo:=HO.o.m.mark ((zBr _ wr).alloc (zR _) (.cells #[.int .u64 0,.int .u64 0] 147)) wr.heap.size 8 (zR _) (by decide);have I7:jE (wr.alloc (.cells #[.int .u64 0,.int .u64 0] 147)) wr.heap.size (0,0):=bR _ _ _ rfl;generalize wr.alloc (.cells #[.int .u64 0,.int .u64 0] 147)=wA at eo I7 ⊢;obtain⟨fb,Ys⟩:=zE (wr.heap.size);rw[<-Ys] at eo I7 ⊢;have DG:dB tag fb 8 fb=8:=jS _ _ _;generalize dB tag fb 8=tagA at eo DG;have Rw:=zh DG;have Rk:=zh (zAi eo I7)
     have lbl0:=(eo.below.block bl (aA Va.o.1)).trans Va.o.1;have q0:=aB _ _ 0 _ _ _ lbl0;simp only[zLa,zLb] at q0;clear eo I7 Ys DG lbl0;go_wp2_with (fail);clear q0
     go_loopw [13,65] (λs13 s65 wr2=>∃ (j:Nat),s65=.int .i64 j/\j<=L.cL.length/\s13=.int .i64 (bI L s j).2/\iG w (bB L.cL).length (bB L.cL) ((bB L.cL).map (bG L.cL)) tb bc cc mb w5.heap.size rc tagA sE y7 yt (.slice (some ⟨gs,0,none⟩) sE.length cs) vr vg QS wr2/\jE wr2 fb (bI L s j).1/\(bI L s j).1.Ok/\ -1<=(bI L s j).2) (λ_ s65 _=>L.cL.length-(RowKit.intOf s65).toNat)
     case atStart=>exact⟨0,rfl,by omega,rfl,Rk.o.1,Rk.o.2,show aW.Ok (0,0) from⟨by decide,by decide⟩,show (-1:Int)<= -1 by decide⟩
     case round=>
      obtain⟨j,rfl,hj,rfl,Kp,QT,Do,NV⟩:=hrel;have PN:=zh (zAi Kp QT);have Bo:=zh Do;by_cases Yb:j<L.cL.length
      . have Is:(j:Int)<(L.cL.length:Int):=by omega
        have Cw:=zW j (by omega);have Qv:=sD sE i s BC.o.1;rw[Nat.mul_comm 2 i] at Qv;have x0:=aE Kp.fSets _ _ Qv.1;have x1:=aE Kp.fSets _ _ Qv.2;have Jp:bI L s (j+1)=if s.has j then ((bI L s j).1.or (L.fO.getD j (0,0)),if 0<=L.rU.getD j (-1)/\((bI L s j).2<0\/L.rU.getD j (-1)<(bI L s j).2) then L.rU.getD j (-1) else (bI L s j).2) else bI L s j:=rfl
        have QM:=zh Jp;clear Jp Qv Kp QT Do;cases hh:s.has j with
        | false=>
         have HH:=zh hh;clear hh;go_wp2_with (first|(go_at_call 63;refine (zbM j s _ (by exact BC.o.2) (by omega)).mono ?_;rintro e w' ⟨rfl,FU⟩;rw[HH.o];have EH:=zh FU;clear FU));go_roundw
         case rel=>
          have hn:=QM.o;rw[HH.o] at hn;exact⟨j+1,by go_num,by omega,by rw[hn];rfl,PN.o.1.later EH.o,by rw[hn];exact (EH.o.block fb (aA PN.o.2)).trans PN.o.2,by rw[hn];exact Bo.o,by rw[hn];exact NV⟩
         case measure=>(simp[zI]<;>omega)
        | true=>
         have HH:=zh hh;clear hh;go_upto_region 21 with (go_at_call 63;refine (zbM j s _ (by exact BC.o.2) (by omega)).mono ?_;rintro e w' ⟨rfl,FU⟩;rw[HH.o];have EH:=zh FU;clear FU)
         obtain⟨F,hF⟩:=zE ((bI L s j).1);obtain⟨r,hr⟩:=zE ((bI L s j).2);obtain⟨x,hx⟩:=zE (L.fO.getD j (0,0));obtain⟨rj,OH⟩:=zE (L.rU.getD j (-1));have hn:=QM.o;rw[HH.o,zP rfl,<-hF,<-hr,<-hx,<-OH] at hn;have HN:=zh hn;have rh:L.fO[j]?=some x:=by rw[hx,zLf,zLe (by rw[HQ.o.2.1];exact Yb)];rfl
         have NZ:L.rU[j]?=some rj:=by rw[OH,zLf,zLe (by rw[HQ.o.1];exact Yb)];rfl
         have IB:=zh (zAi (by rw[hF];exact Bo.o:F.Ok) (HQ.o.2.2 x (zM rh)));have Uy:jE w' fb F:=by rw[hF];exact (EH.o.block fb (aA PN.o.2)).trans PN.o.2
         have TJ:=PN.o.1.later EH.o;rw[<-hr] at NV ⊢;have Xn:=(TJ.below.block bl (aA Va.o.1)).trans Va.o.1;have Jx:=aU Va.o.2.2 (λg hg=>TJ.below.block g (Va.o.2.2.lt g hg).2);have UZ:=aU Va.o.2.1 (λg hg=>TJ.below.block g (Va.o.2.1.lt g hg).2);have qf:=sD L.fO j x rh;rw[Nat.mul_comm 2 j] at qf;have yf0:=aE Jx _ _ qf.1;have yf1:=aE Jx _ _ qf.2;have yl1:=aB _ _ 1 _ _ _ Xn;have yl2:=aB _ _ 2 _ _ _ Xn
         simp only[zLa,zLc,zLb] at yl1 yl2;obtain⟨y0,y1⟩:=Uy.cells;have lfb:=aA Uy;have lbl:=aA Xn;have lgf:=(Jx.lt gf rfl).2;have QR:=zh (zAi TJ Uy);have Wy:=zh NZ;clear hF hr hx OH hn rh NZ TJ Uy Xn Jx UZ qf;refine wp_region_noPanic ?_
         refine cK (λw'=>w'.cell? ⟨fb,0,none⟩=some (.int .u64 F.1)/\w'.cell? ⟨fb,1,none⟩=some (.int .u64 F.2)/\w'.cell? ⟨bl,1,none⟩=some (.slice (some ⟨gf,0,none⟩) L.cL.length capf)/\w'.cell? ⟨gf,j*2,none⟩=some (.int .u64 x.1)/\w'.cell? ⟨gf,j*2+1,none⟩=some (.int .u64 x.2)) 9 (by kernel_rfl) ⟨y0,y1,yl1,yf0,yf1⟩ (λHe=> ?_);refine aH 0 He ?_;refine aH 1 He ?_;refine aH 2 He ?_;refine aH 3 He ?_;refine aH 4 He ?_;refine aH 5 He ?_;refine aH 6 He ?_;refine aH 7 He ?_;refine dA 8 (λK hK=> ?_);go_simp;go_at_call 59;refine (zdt F x _ IB.o.1 IB.o.2).mono ?_;rintro e PJ ⟨rfl,Qh⟩;simp only[nY];have Q6:=(zAi ((aL Qh ⟨fb,0,none⟩ lfb).trans y0) (zAi ((aL Qh ⟨fb,1,none⟩ lfb).trans y1) (zAi ((aL Qh ⟨bl,1,none⟩ lbl).trans yl1) (zAi ((aL Qh ⟨gf,j*2,none⟩ lgf).trans yf0) ((aL Qh ⟨gf,j*2+1,none⟩ lgf).trans yf1)))));refine hK.out _ _ (λ_=>Q6) ?_;clear hK K He
         (try simp only[Act.put,lA,lB,lC]);obtain⟨z0,z1,_,_,_⟩:=Q6;have Ji:jE PJ fb F:=(Qh.block fb lfb).trans QR.o.2;have zf0:=aM _ _ 0 _ _ Ji;have zf1:=aM _ _ 1 _ _ Ji;have zl:=aA Ji;refine dA 9 (λK hK=> ?_);go_simp;refine hK.out _ _ (λh=>absurd rfl h) ?_;clear hK K;(try simp only[Act.put,lA,lB,lC]);refine fK (by kernel_rfl) ?_;refine NoPanic.normal ?_
         have GM:=(QR.o.1.later (⟨Qh.os,Qh.tape,Qh.output,Qh.size,Qh.block⟩:Below w'.heap.size w' PJ)).other (w':=(PJ.setCell ⟨fb,0,none⟩ (.int .u64 ((F.or x).1:Nat))).setCell ⟨fb,1,none⟩ (.int .u64 ((F.or x).2:Nat))) fb (by rw[Rw.o];decide) (rJ _ _ _ _ _ _);have OK:jE ((PJ.setCell ⟨fb,0,none⟩ (.int .u64 ((F.or x).1:Nat))).setCell ⟨fb,1,none⟩ (.int .u64 ((F.or x).2:Nat))) fb (F.or x):=aC _ _ _ _ _ _ _ (aC _ _ _ _ _ _ _ Ji)
         generalize (PJ.setCell ⟨fb,0,none⟩ (.int .u64 ((F.or x).1:Nat))).setCell ⟨fb,1,none⟩ (.int .u64 ((F.or x).2:Nat))=wX at GM OK ⊢;have FY:=(GM.below.block bl (aA Va.o.1)).trans Va.o.1;have ib:=aU Va.o.2.1 (λg hg=>GM.below.block g (Va.o.2.1.lt g hg).2);have xl2:=aB _ _ 2 _ _ _ FY;simp only[zLa,zLc,zLb] at xl2;have NZ:=Wy.o;have xr:=aE ib j (.int .i64 rj) (by rw[List.getElem?_map,NZ];rfl);have am:=zh (zAi GM OK)
         have GZ:=or_ok IB.o.1 IB.o.2;have IF:=zh GZ;clear GM OK FY ib NZ z0 z1 zf0 zf1 zl Ji Qh y0 y1 lfb lbl lgf yf0 yf1 yl1 yl2 GZ;by_cases h1:0<=rj
         . by_cases h2:r<0
           . go_wp2_with (fail)
             go_roundw
             case rel=>
              have hn:=HN.o;rw[zP ⟨h1,.inl h2⟩] at hn;exact⟨j+1,by go_num,by omega,by rw[hn],am.o.1,by rw[hn];exact am.o.2,by rw[hn];exact IF.o,by rw[hn];omega⟩
             case measure=>(simp[zI]<;>omega)
           by_cases h3:rj<r
           . go_wp2_with (fail)
             go_roundw
             case rel=>
              have hn:=HN.o;rw[zP ⟨h1,.inr h3⟩] at hn;exact⟨j+1,by go_num,by omega,by rw[hn],am.o.1,by rw[hn];exact am.o.2,by rw[hn];exact IF.o,by rw[hn];omega⟩
             case measure=>(simp[zI]<;>omega)
           go_wp2_with (fail)
           go_roundw
           case rel=>
            have hn:=HN.o;rw[zN (λe=>by omega)] at hn;exact⟨j+1,by go_num,by omega,by rw[hn],am.o.1,by rw[hn];exact am.o.2,by rw[hn];exact IF.o,by rw[hn];omega⟩
           case measure=>(simp[zI]<;>omega)
         go_wp2_with (fail)
         go_roundw
         case rel=>
          have hn:=HN.o;rw[zN (λe=>by omega)] at hn;exact⟨j+1,by go_num,by omega,by rw[hn],am.o.1,by rw[hn];exact am.o.2,by rw[hn];exact IF.o,by rw[hn];omega⟩
         case measure=>(simp[zI]<;>omega)
      have Is:¬ (j:Int)<(L.cL.length:Int):=by omega
      have UH:j=L.cL.length:=by omega
      subst UH;clear hj Kp QT Do;obtain⟨F,hF⟩:=zE ((bI L s L.cL.length).1);obtain⟨r,hr⟩:=zE ((bI L s L.cL.length).2);rw[<-hr] at NV ⊢;have Ha:=Kd.o;rw[<-hF,<-hr] at Ha;obtain⟨V2,ym⟩:∃ V2,gM F ((bB L.cL).map (bG L.cL)) sE []=V2:=⟨_,rfl⟩;have Cc:rowV L ((bB L.cL).map (bG L.cL)) f' (y7++[r]) yt V2=V:=by
       rw[<-Ha,<-ym];rfl
      have QV:=zh Cc;have tJ:=zh (by rw[hF];exact Bo.o:F.Ok);have Sv:jE wr fb F:=by rw[hF];exact PN.o.2
      have pd:=zh (zAi PN.o.1 Sv);have jr:=zh ym;clear hF hr Ha Cc Sv ym;have t0:=aB _ _ 0 _ _ _ pd.o.1.ht;simp only[zLa,zLb] at t0;have Dh:=zaT (bB L.cL).length (by omega) wr;go_upto_region 27 with (fail)
      have j8:R3St w (bB L.cL).length (bB L.cL) ((bB L.cL).map (bG L.cL)) tb bc cc mb w5.heap.size rc y7 yt vr vg QS F fb wr.heap.size V2 0 (dB tagA wr.heap.size 7) sE [] (.slice (some ⟨gs,0,none⟩) sE.length cs) (wr.alloc (.cells (dE (List.replicate (bB L.cL).length 0)).toArray 3)):=by
       have lfb:=aA pd.o.2;exact⟨pd.o.1.mark ((zBr _ wr).alloc (zR _) _) _ 7 (zR _) (by decide),by simpa using (zbe _ wr.heap.size (bB L.cL).length (by omega) (bR _ _ _ rfl)),jS _ _ _,(cV _ _ _ lfb).trans pd.o.2,(dC (by omega)).trans Rw.o,rfl,jr.o,HO.o.ok,HO.o.nd,Qt⟩
      generalize wr.alloc (.cells (dE (List.replicate (bB L.cL).length 0)).toArray 3)=wB at j8 ⊢;obtain⟨rb,jj⟩:=zE (wr.heap.size);rw[<-jj] at j8 ⊢;generalize dB tagA rb 7=tagB at j8;have Bt:=zh j8;have t0:=aB _ _ 0 _ _ _ j8.m.ht;simp only[zLa,zLb] at t0;clear j8 jj Dh;go_wp2_with (fail);clear t0
      go_loopw [9,115] (λs9 s115 wr3=>∃ (k gs' cs':Nat) (qc:Nat->Nat) (Qx:List aW) (vu:List Int),s9=.slice (some ⟨gs',0,none⟩) Qx.length cs'/\s115=.int .i64 k/\k<=(bB L.cL).length/\R3St w (bB L.cL).length (bB L.cL) ((bB L.cL).map (bG L.cL)) tb bc cc mb w5.heap.size rc y7 yt vr vg QS F fb rb V2 k qc Qx vu s9 wr3) (λ_ s115 _=>(bB L.cL).length-(RowKit.intOf s115).toNat)
      case atStart=>exact⟨0,_,_,_,_,_,rfl,rfl,by omega,Bt.o⟩
      case round=>
       obtain⟨k,gs',cs',qc,Qx,vu,rfl,rfl,hk,j9⟩:=hrel;have py:=zh j9;by_cases Y1:k<(bB L.cL).length
       . have hzk:(k:Int)<((bB L.cL).length:Int):=by omega
         have DU:=zW k (by omega);obtain⟨m,hm⟩:∃ m,((bB L.cL).map (bG L.cL))[k]?=some m:=⟨_,zLe (by simpa using Y1)⟩;have Di:m.Ok:=by
          rw[List.getElem?_map] at hm;cases hq:(bB L.cL)[k]? with
          | none=>rw[hq] at hm;cases hm
          | some c=>rw[hq] at hm;cases hm;exact uJ c L.cL 0 (0,0) ⟨by decide,by decide⟩ (by omega)
         have Lc:=sD _ k m hm;rw[Nat.mul_comm 2 k] at Lc;have m0:=aE j9.m.fMs _ _ Lc.1;have m1:=aE j9.m.fMs _ _ Lc.2;obtain⟨y0,y1⟩:=j9.fs.cells;have lfb:=aA j9.fs;have Yl:=(j9.m.fMs.lt mb rfl).2;have VA:=bits_and_u64_nat F.1 m.1 tJ.o.1 Di.1;have Hk:=bits_and_u64_nat F.2 m.2 tJ.o.2 Di.2;have Q2:((bB L.cL).map (bG L.cL)).drop k=m::((bB L.cL).map (bG L.cL)).drop (k+1):=by
          obtain⟨h1,h2⟩:=List.getElem?_eq_some_iff.1 hm;rw[List.drop_eq_getElem_cons h1,h2]
         have Ha:=j9.rest;rw[Q2,gM] at Ha;obtain⟨to',XC⟩:∃ t,t=F.and m:=⟨_,rfl⟩;rw[<-XC] at Ha;have YF:(F.1&&& m.1)=to'.1:=by rw[XC];rfl
         have i0:(F.2&&& m.2)=to'.2:=by rw[XC];rfl
         rw[YF] at VA;rw[i0] at Hk;have i4:to'.Ok:=by
          rw[XC];exact⟨Nat.lt_of_le_of_lt Nat.and_le_left tJ.o.1,Nat.lt_of_le_of_lt Nat.and_le_left tJ.o.2⟩
         have XK:=zh Ha;have BJ:=zh i4;have se:∀ w',Below wr.heap.size wr w'->Below wr.heap.size wr w'/\w'.cell? ⟨fb,0,none⟩=some (.int .u64 F.1)/\w'.cell? ⟨fb,1,none⟩=some (.int .u64 F.2)/\w'.cell? ⟨mb,k*2,none⟩=some (.int .u64 m.1)/\w'.cell? ⟨mb,k*2+1,none⟩=some (.int .u64 m.2):=λw' hb=>
          ⟨hb,(aL hb ⟨fb,0,none⟩ lfb).trans y0,(aL hb ⟨fb,1,none⟩ lfb).trans y1,(aL hb ⟨mb,k*2,none⟩ Yl).trans m0,(aL hb ⟨mb,k*2+1,none⟩ Yl).trans m1⟩
         have JO:=zh se;clear hm Di Lc m0 m1 y0 y1 lfb Yl Q2 Ha XC YF i0 i4 se j9;go_upto_region 30 with (fail)
         go_region_held3 (λw'=>Below wr.heap.size wr w'/\w'.cell? ⟨fb,0,none⟩=some (.int .u64 F.1)/\w'.cell? ⟨fb,1,none⟩=some (.int .u64 F.2)/\w'.cell? ⟨mb,k*2,none⟩=some (.int .u64 m.1)/\w'.cell? ⟨mb,k*2+1,none⟩=some (.int .u64 m.2)) (first|exact JO.o _ (zBr _ _).drew|exact JO.o _ ((zBr _ _).drew.alloc (by simp) _)|exact JO.o _ (((zBr _ _).drew.alloc (by simp) _).setCell (by simp) _)|exact JO.o _ ((((zBr _ _).drew.alloc (by simp) _).setCell (by simp) _).setCell (by simp) _)) (fail)
         have PW:=py.o.later (w':=(wr.alloc (.cells #[.int .u64 to'.1,.int .u64 to'.2] 147)).drew) (((zBr _ wr).alloc (zR _) _).drew);have Eb:jE (wr.alloc (.cells #[.int .u64 to'.1,.int .u64 to'.2] 147)).drew wr.heap.size to':=bR _ _ _ rfl;generalize (wr.alloc (.cells #[.int .u64 to'.1,.int .u64 to'.2] 147)).drew=wT at PW Eb ⊢;obtain⟨ta,Ex⟩:=zE (wr.heap.size);rw[<-Ex] at Eb ⊢;have Tz:=zh (zAi PW Eb);obtain⟨d0,d1⟩:=Eb.cells;have lta:=aA Eb
         have P9:=map_look PW.m.fMap PW.ok PW.nd to' BJ.o;unfold nY at P9;have Pj:∀ w',Below wT.heap.size wT w'->(∃ u,w'.cell? ⟨rb,k,none⟩=some u)/\w'.frozen? ⟨rb,k,none⟩=false/\rb<w'.heap.size:=λw' hb=>by
          have h:=(Tz.o.1.later hb).rr;have hl:(dE (vu++List.replicate ((bB L.cL).length-k) 0)).length=(bB L.cL).length:=by
           have:=Tz.o.1.lk;simp[dE];omega
          exact⟨⟨_,aE h k _ (zLe (by rw[hl];exact Y1))⟩,h.frozenAt _,(h.lt rb rfl).2⟩
         have DZ:=zh Pj;have wu:ta≠w5.heap.size:=by
          obtain⟨es,clock,Kp,_,_⟩:=py.o.m.fMap;have:=aA Kp;omega
         have WD:=zh wu;clear PW Eb Ex Pj VA Hk wu;by_cases tF:to'=(0,0)
         . have Ha:=XK.o
           rw[zP tF] at Ha;have Ac:=zh Ha;have HE:=zh (decide_eq_true tF);generalize ((Qx.findIdx? (λx=>decide (x=to'))).getD 0)=ix at P9;generalize ((Qx.findIdx? (λx=>decide (x=to'))).isSome)=bx at P9;clear tF Ha;go_upto_region 33 with (go_at_call 64;refine (oL to' _).mono ?_;rintro e w6 ⟨rfl,yd⟩;rw[HE.o];have Qe:=zh yd;clear yd)
           obtain⟨⟨u,zu⟩,zf,zl⟩:=DZ.o _ Qe.o;clear P9 d0 d1 lta;go_wp2_with (fail);go_roundw
           case rel=>exact⟨k+1,gs',cs',qc,Qx,vu++[-1],rfl,by go_num,by omega,(Tz.o.1.later Qe.o).store Y1 (-1) Ac.o⟩
           case measure=>(simp[zI]<;>omega)
         have Ha:=XK.o
         rw[zN tF] at Ha;have HE:=zh (decide_eq_false tF);clear tF;cases Tf:Qx.findIdx? (λx=>decide (x=to')) with
         | some jx=>
          rw[Tf] at Ha P9;simp only[Option.getD_some,Option.isSome_some] at P9;have Ac:=zh Ha;clear Tf Ha;go_upto_region 34 with (go_at_call 64;refine (oL to' _).mono ?_;rintro e w6 ⟨rfl,yd⟩;rw[HE.o];have Qe:=zh yd;clear yd)
          obtain⟨⟨u,zu⟩,zf,zl⟩:=DZ.o _ Qe.o;clear P9 d0 d1 lta;go_wp2_with (fail);go_roundw
          case rel=>exact⟨k+1,gs',cs',qc,Qx,vu++[(jx:Int)],rfl,by go_num,by omega,(Tz.o.1.later Qe.o).store Y1 jx Ac.o⟩
          case measure=>(simp[zI]<;>omega)
         | none=>
          rw[Tf] at Ha P9;simp only[Option.getD_none,Option.isSome_none] at P9;by_cases Vt:200<Qx.length
          . rw[zP Vt] at Ha
            subst Ha;have MP:=QV.o;rw[rowV] at MP;have WF:=zh MP;have Ir:¬ (Qx.length:Int)<=200:=by omega
            clear Tf Vt MP;go_wp2_with (first|(go_at_call 64;refine (oL to' _).mono ?_;rintro e w6 ⟨rfl,yd⟩;rw[HE.o];have Qe:=zh yd;clear yd));refine bodyPost_ret (v:=.tuple #[.pointer none,.bool false]) (by simp[results,Tryz.results34,go_sem]) rfl ?_;exact .inl ⟨WF.o.symm,rfl,(Tz.o.1.later Qe.o).m.below⟩
          rw[zN Vt] at Ha;have Ac:=zh Ha;have Kc:=zh Tf;have Ir:(Qx.length:Int)<=200:=by omega
          clear Tf Ha Vt;go_upto_region 34 with (go_at_call 64;refine (oL to' _).mono ?_;rintro e w6 ⟨rfl,yd⟩;rw[HE.o];have Qe:=zh yd;clear yd)
          have jb:=Tz.o.1.later Qe.o;obtain⟨w8,Er,GQ,XT⟩:=map_put jb.m.fMap jb.ok to' BJ.o Kc.o;unfold nY at Er;have U4:jE w6 ta to':=(Qe.o.block ta lta).trans Tz.o.2;have iv:jE w8 ta to':=(XT.block ta (aA U4) (λe=>WD.o (by cases e;rfl))).trans U4;obtain⟨e0,e1⟩:=U4.cells;obtain⟨f0,f1⟩:=iv.cells;have ST:gs'≠w5.heap.size:=λe=>by have h1:=jb.m.t3 gs' rfl;rw[e,jb.m.t2] at h1;cases h1
          have Xw:w8.ownsRow 0 147 2 (.slice (some ⟨gs',0,none⟩) Qx.length cs') Qx.length (setCells Qx):=aU jb.m.fSets (λg hg=>XT.block g (jb.m.fSets.lt g hg).2 (λe=>by cases hg;exact ST (by cases e;rfl)));have ff:=zh Xw;have Xo:Qx.length+1<=1000000000:=by omega
          have lp:∀ w9,(w8.alloc (.cells #[.int .u64 to'.1,.int .u64 to'.2] 147)).grownBy w9 (some gs')->(∃ u,w9.cell? ⟨rb,k,none⟩=some u)/\w9.frozen? ⟨rb,k,none⟩=false/\rb<w9.heap.size:=λw9 La=>by
           have lr6:=(jb.rr.lt rb rfl).2;have hs8:=XT.size;have tg3:=jb.m.t3 gs' rfl;have kj:w9.heap[rb]?=w6.heap[rb]?:=(La.block rb (by simp;omega) (λe=>by cases e;rw[jb.tr] at tg3;cases tg3)).trans ((cV _ _ _ (by omega)).trans (XT.block rb lr6 (λe=>by
            have h2:=jb.m.t2;have h3:=jb.tr;injection e with e
            rw[<-e,h3] at h2;cases h2)))
           have h:w9.ownsRow 0 3 1 (.slice (some ⟨rb,0,none⟩) (bB L.cL).length (bB L.cL).length) (bB L.cL).length (dE (vu++List.replicate ((bB L.cL).length-k) 0)):=aU jb.rr (λg hg=>by cases hg;exact kj);have hl:(dE (vu++List.replicate ((bB L.cL).length-k) 0)).length=(bB L.cL).length:=by
            have:=jb.lk;simp[dE];omega
           exact⟨⟨_,aE h k _ (zLe (by rw[hl];exact Y1))⟩,h.frozenAt _,(h.lt rb rfl).2⟩
          have Wa:=zh lp;have H6:=zh (zAi jb (zAi GQ XT));clear lp Xw ST U4 iv jb GQ XT P9 d0 d1 lta;go_wp2_with (at_builtin;refine dI rfl elemSet rfl (by exact ff.o.alloc _) [.int .u64 to'.1,.int .u64 to'.2] Xo ?_;intro v9 w9 qp yh yg;obtain⟨g9,yk,rfl⟩:=bV qp;obtain⟨⟨u,zu⟩,zf,zl⟩:=Wa.o w9 yh;have H9:=zh (zAi qp (zAi yh yg));clear qp yh yg);go_roundw
          case rel=>exact⟨k+1,g9,yk,_,Qx++[to'],vu++[(Qx.length:Int)],by simp,by go_num,by omega,H6.o.1.put to' BJ.o Kc.o (by omega) H6.o.2.2 H6.o.2.1 _ _ H9.o.1 H9.o.2.1 H9.o.2.2 _ Y1 Ac.o⟩
          case measure=>(simp[zI]<;>omega)
       have hzk:¬ (k:Int)<((bB L.cL).length:Int):=by omega
       have TI:k=(bB L.cL).length:=by omega
       subst TI;have Ha:=j9.rest;rw[List.drop_of_length_le (by simp),gM] at Ha;subst Ha;have XH:=zh (show bU L ((bB L.cL).map (bG L.cL)) f' Qx (y7++[r]) (yt++[vu])=V from QV.o);have Hm:=j9.m.fI rb j9.tr;have jm:wr.ownsRow 0 3 1 (.slice (some ⟨rb,0,none⟩) (bB L.cL).length (bB L.cL).length) (bB L.cL).length (dE vu):=by
        have h:=j9.rr;rw[Nat.sub_self,List.replicate_zero,List.append_nil] at h;exact h
       have Tt:dB qc rb 6 rb=6:=jS _ _ _;generalize dB qc rb 6=QF at Hm Tt;have T8:=zh (zAi Hm (zAi jm (zAi Tt (zAi j9.lk (zAi j9.ok (zAi j9.nd j9.le))))));have t2:=aB _ _ 2 _ _ _ Hm.ht;simp only[zLa,zLb,zLc] at t2;have kz:=aA Hm.ht;have Zl:yt.length+1<=1000000000:=by have:=HO.o.lg;omega
       have UX:y7.length+1<=1000000000:=by have:=HO.o.lr;omega
       have tz:∀ w9 ob,(wr.alloc ob).grownBy w9 vg.ownBlock->w9.frozen? ⟨tb,2,none⟩=false/\(∃ u,w9.cell? ⟨tb,2,none⟩=some u)/\tb<w9.heap.size:=λw9 ob hg=>by
        obtain⟨k1,k2,k3⟩:=jV (off:=2) T8.o.1.ht (λe=>by have h1:=T8.o.1.t5 tb e;rw[T8.o.1.t1] at h1;cases h1) hg;exact⟨k2,⟨_,k1⟩,k3⟩
       have BA:=zh tz;clear j9 Hm jm Tt tz;go_upto_region 43 with (at_builtin;refine dI rfl zb1 rfl (by exact T8.o.1.fGoes.alloc _) [.slice (some ⟨rb,0,none⟩) (bB L.cL).length (bB L.cL).length] Zl ?_;intro v9 w9 qp yh yg;obtain⟨g9,yk,rfl⟩:=bV qp;obtain⟨zf,⟨u,zu⟩,zl⟩:=BA.o w9 _ yh;have H9:=zh (zAi qp (zAi yh yg));clear qp yh yg)
       have Ti:=T8.o.1.appGoes vu rb _ _ T8.o.2.2.2.1 T8.o.2.1 T8.o.2.2.1 _ _ H9.o.1 H9.o.2.1 H9.o.2.2;generalize dB QF (wr.heap.size+1) 5=Qd at Ti;generalize w9.setCell ⟨tb,2,none⟩ (.slice (some ⟨g9,0,none⟩) (yt.length+1) yk)=Vi at Ti ⊢;have ah:=zh Ti;have t1:=aB _ _ 1 _ _ _ Ti.ht;simp only[zLa,zLb,zLc] at t1;have kz:=aA Ti.ht
       have ii:∀ w11 ob,(Vi.alloc ob).grownBy w11 vr.ownBlock->w11.frozen? ⟨tb,1,none⟩=false/\(∃ u,w11.cell? ⟨tb,1,none⟩=some u)/\tb<w11.heap.size:=λw11 ob hg=>by
        obtain⟨k1,k2,k3⟩:=jV (off:=1) ah.o.ht (λe=>by have h1:=ah.o.t4 tb e;rw[ah.o.t1] at h1;cases h1) hg;exact⟨k2,⟨_,k1⟩,k3⟩
       have mq:=zh ii;clear Ti ii zf zu zl t2;go_upto_region 14 with (at_builtin;refine dI rfl mD rfl (by exact ah.o.fRule.alloc _) [.int .i64 r] UX ?_;intro v11 w11 PF AV Nx;obtain⟨g11,cap11,rfl⟩:=bV PF;obtain⟨zf,⟨u,zu⟩,zl⟩:=mq.o w11 _ AV;have Lt:=zh (zAi PF (zAi AV Nx));clear PF AV Nx)
       have UL:=ah.o.appRule r _ _ Lt.o.1 Lt.o.2.1 Lt.o.2.2;generalize dB Qd (Vi.heap.size+1) 4=xe at UL;generalize w11.setCell ⟨tb,1,none⟩ (.slice (some ⟨g11,0,none⟩) (y7.length+1) cap11)=PJ at UL ⊢;have LW:=zh UL;clear UL zf zu zl t1;have Xf:=zW i (by omega);go_wp2_with (fail);go_roundg f'
       case rel=>
        refine⟨i+1,gs',cs',f',xe,Qx,y7++[r],yt++[vu],_,_,_,rfl,by go_num,rfl,LW.o,XH.o,by simp[HO.o.lr],by simp[HO.o.lg],T8.o.2.2.2.2.1,T8.o.2.2.2.2.2.1,T8.o.2.2.2.2.2.2,by have:=HO.o.fu;omega⟩
       case measure=>have:=Wf.o;omega
   have hz:¬ (i:Int)<(sE.length:Int):=by omega
   have MQ:V=some (y7,yt):=by
    have Ha:=HO.o.rest;cases f9 with
    | zero=>rw[bU,zN (by rw[HO.o.lr];exact Hf)] at Ha;exact Ha.symm
    | succ k=>rw[bU,zN (by rw[HO.o.lr];exact Hf)] at Ha;exact Ha.symm
   obtain⟨R,f,Hj,b2,hT,Hz,Hm,Xr,sr⟩:=HM.o.2 y7 yt MQ;have hm:=HO.o.m;generalize ie:y7=rU at*;generalize Gm:yt=gO at*;clear ie Gm;have IM:=zh (zAi sr MQ);have QR:=zh (zAi Hz Hm);clear sr Hz Hm MQ;have Gn:0<gO.length:=hT.some';have Qz:rU.length=gO.length:=hT.rules;obtain⟨gr',cr',rfl⟩:∃ g cap,vr=.slice (some ⟨g,0,none⟩) rU.length cap:=by
    rcases bD hm.fRule with⟨_,h0⟩|⟨g,cap,e,_⟩
    . omega
    exact⟨g,cap,e⟩
   obtain⟨gg',cg',rfl⟩:∃ g cap,vg=.slice (some ⟨g,0,none⟩) gO.length cap:=by
    rcases bD hm.fGoes with⟨_,h0⟩|⟨g,cap,e,_⟩
    . omega
    exact⟨g,cap,e⟩
   have LY:=zh hm;have iw:=hm.tabAt r8.o yp Xr 0 wr (λ_ _=>rfl) hm.ht;have Vd:=bound_any ⟨bB L.cL,rU,gO,0⟩ R f hT Hj b2 QR.o.1 QR.o.2 wr.heap.size wr tb _ _ _ _ _ _ iw (zR _);obtain⟨bnd,dd⟩:=zE ((if b2.round then -1 else Hj+1));rw[<-dd] at Vd;have YP:=zh Vd;have Lz:=zh dd;clear dd;clear hm Gn Qz iw Vd
   go_wp2_with (first|(go_at_call 48;refine YP.o.mono ?_;rintro e w13 ⟨rfl,B3⟩;have P1:=(B3.block tb (aA LY.o.ht)).trans LY.o.ht;have k3:=aB _ _ 3 _ _ _ P1;simp only[zLa,zLb,zLc] at k3;have kf:=aM _ _ 3 _ _ P1;have ry:=zh (zAi B3 P1);clear B3 P1));have GK:=LY.o.later ry.o.1;refine bodyPost_ret (v:=.tuple #[aK tb,.bool true]) (by simp[results,Tryz.results34,go_sem]) rfl ?_
   refine .inr ⟨⟨_,IM.o.2⟩,tb,bc,cc,gr',cr',gg',cg',rfl,by rw[IM.o.1,<-Lz.o];exact GK.tabAt r8.o yp Xr _ _ (λb hb=>aG _ _ _ _ hb) (aC _ _ 3 _ _ _ _ ry.o.2),tB.1,?_⟩;have hb:=GK.below;exact⟨hb.os,hb.tape,hb.output,by simpa using hb.size,λb Q1=>(aG _ _ _ _ (λe=>by have h1:=tB.1;have e':b=tb:=e;omega)).trans (hb.block b Q1)⟩
