/- Part of a proof. No condition. -/
import Derived.Deep.Upon
import Derived.Test.YtmfnmkccbldfpaaGreatDoorS29
import Derived.Test.YtmfnmkccbldfpaaGreatDoorS32
set_option linter.unusedVariables false
set_option linter.unusedSimpArgs false
set_option maxRecDepth 100000
set_option maxHeartbeats 8000000
namespace Go.Proofs.YtmfnmkccbldfpaaGreatDoor
open Go.RowKit Go.Lib Tryz
theorem zzDG {p:Prop} (h:p:=by
 rcases k.new g h3 with e|e
 all_goals grind):p:=h
theorem zzB8 {p:Prop} (h:p:=by exact World.ownsRow_nil _ _ _ _):p:=h
theorem zzBi {p:Prop} (h:p:=by have:=HL.o;omega):p:=h
theorem zzBR {p:Prop} (h:p:=by
 rcases k.new b hb with e|e
 . exact h.low.2 b e
 have h1:=h.lt
 have h2:=h.low.2 mb (.inl rfl);omega):p:=h
theorem zzA9 {p:Prop} (h:p:=by
 cases hv
 show (w.setCell ⟨gF,i,none⟩ v).ownsRow 0 _ 1 S.vF (D.fL.set i l).length (S.fv.set i v);rw[Ke,List.length_set];refine⟨zg,.inr ⟨gF,cap,_,rfl,hb,aB w gF i v _ _ _ hg,nv,y7,zg,?_⟩⟩
 grind [List.take_set]):p:=h
variable {e:TypeId} {size mb i:Nat} {w w' u w2:ω} {v v':Value} {l:ο} {ob:Obj}
section
variable {P:Program} (w:ω)
theorem zde {t:TypeId} {bytes:Nat} (E:eO P t e size bytes) (ty:TypeId) (v:Value) (n:Nat) (xs:ζ) (Yb:w.r e size v n xs)
 (x:Value) (m:Nat) (qm:ζ) (hx:w.r e size x m qm) (h1:∀ u∈qm,u.oneCell'=true) (hb:n+m<=1000000000) (hbytes:bytes<=1000):
 ∃ v' w',(Builtin.append_ #[t,t] ty #[v,x]).run P w=.ok v' w'/\w'.r e size v' (n+m) (xs++qm)/\w.grownBy w' (β v)/\(β v'=β v\/β v'=some w.heap.size):=by
 rcases Nat.eq_zero_or_pos m with h0|hm
 . subst h0
   have hn:qm=[]:=List.eq_nil_of_length_eq_zero (by simpa using hx.1);subst hn;obtain⟨i,z,hi,hz,Hv,Db,CC⟩:=E.info;have hs:Src P i.size t x 0 [] w:=by
    rcases aY hx with⟨rfl,_⟩|⟨g,cap,rfl,_,_⟩
    . exact Src.ofNil w E.und 0
    exact Src.ofSlice w E.und g.a 0 cap [] zs (λj u h=>by simp at h) (λu h=>by cases h)
   refine⟨v,w,?_,zg,⟨rfl,rfl,rfl,bR,λ_ _ _=>rfl⟩,.inl rfl⟩
   rcases aY Yb with⟨rfl,rfl⟩|⟨g,cap,rfl,hc,_⟩
   . exact run_append_nothing w t t ty e i E.und hi none 0 0 bR x hs
   exact run_append_nothing w t t ty e i E.und hi _ n cap hc x hs
 rcases aY hx with⟨_,h0⟩|⟨g,cap,rfl,_,_⟩
 . omega
 exact qE w E ty v n xs Yb g.a m cap qm hx.1 (hx.cells (g:=g) rfl) h1 hm hb hbytes
theorem lK {ops:Array Oper} {rest:List Oper} {o:Oper} {a:Act} {Q:Exit->Act->World->Prop} (Ko:o.guard=none) (s x:Operand) {t:TypeId} {bytes:Nat}
 (ho:o.op=.call {callee:=.builtin .append,args:=#[s,x],argTypes:=#[t,t]}) (E:eO P t e size bytes)
 (v:Value) (n:Nat) (xs:ζ) (hs:a.eval s=v) (Yb:w.r e size v n xs)
 (u:Value) (m:Nat) (qm:ζ) (hx:a.eval x=u) (hu:w.r e size u m qm) (h1:∀ u∈qm,u.oneCell'=true)
 (hb:n+m<=1000000000) (hbytes:bytes<=1000)
 (h:∀ v' w',w'.r e size v' (n+m) (xs++qm)->w.grownBy w' (β v)->(β v'=β v\/β v'=some w.heap.size)->wpList P ops Q rest (a.put o.dst v') w'):wpList P ops Q (o::rest) a w:=
 wpList_plain Ko λK hK=>by
  obtain⟨v',w',hr,h2,h3,h4⟩:=zde (P:=P) w E o.type v n xs Yb u m qm hu h1 hb hbytes;unfold Oper.wp execOp;refine zzAe ?_;exact hK _ _ (h v' w' h2 h3 h4)
end
def dA (w:ω) (v:Value) (l:List Int):Prop:=w.r 3 1 v (I l) (dP l)
theorem dA.below {l:List Int} (h:dA w v l) (hb:w.u w'):dA w' v l:=aN h hb
theorem dA.nil (w:ω):dA w ν []:=World.ownsRow_nil _ _ _ _
theorem dA.form {l:List Int} (h:dA w v l):∃ ao cap,v=τ ao (I l) cap:=by
 rcases aY h with⟨e,e'⟩|⟨g,cap,e,_⟩
 all_goals grind
theorem dA.lt {l:List Int} (h:dA w v l):∀ g,β v=some g->g<w.t:=λg hg=>by
 exact zzCV
theorem nums_one (l:List Int):∀ u∈dP l,u.oneCell'=true:=λu hu=>by
 obtain⟨_,_,rfl⟩:=List.mem_map.1 hu;rfl
theorem sG {l:List Int} {x:Int}:x∈l↔∃ j,j<I l/\χ l j 0=x:=by
 rw[List.mem_iff_getElem];constructor
 . rintro⟨j,h,e⟩
   exact⟨j,h,zg⟩
 grind
theorem has_any (v:Value) (l:List Int) (x:Int) (w:ω) (h:dA w v l) (hl:I l<=1000000):
 Γ 76 #[v,ι x] w λe w'=>e=ρ (φ (decide (x∈l)))/\w'=w:=by
 have hc:∀ i,i<I l->∃ g cap,v=σ g (I l) cap/\w.i g i (χ l i 0):=λi hi=>by
  rcases aY h with⟨_,h0⟩|⟨g,cap,e,_,hg⟩
  . omega
  subst e
  exact⟨g,cap,rfl,aJ h i _ (gP hi)⟩
 have HL:=zh hl;obtain⟨ao,cap,rfl⟩:=h.form;clear h hl;go_in;go_wp2;go_loopw [5] (λs5 wr=>∃ i:Nat,s5=ι i/\i<=I l/\(∀ j,j<i->χ l j 0≠x)/\wr=w) (λs5 _=>I l-(ϑ s5).toNat)
 case atStart=>grind
 case round=>
  obtain⟨i,rfl,hi,xw,rfl⟩:=hrel;have j0:=zh xw;clear xw;by_cases Hf:i<I l
  . obtain⟨g,xq,e,c0⟩:=hc i Hf
    cases e;have zl:=zt i (I l)
    have:=zW i zzBi;obtain⟨u,hu⟩:=zE (χ l i 0);rw[<-hu] at c0;by_cases he:u=x
    . have HE:zH (decide (x∈l)=true):=zh (decide_eq_true (sG.2 ⟨i,Hf,zo⟩))
      have z:(u==x)=true:=by simp[he]
      clear he hu;go_wp2;go_ret;exact zzBp
    have z:(u==x)=false:=by simp[he]
    have HU:=Θ hu he;clear he hu;go_wp2;go_roundw
    case rel=>exact⟨i+1,by go_num,zo,(λj hj=>by
     by_cases e:j=i
     . subst e;rw[<-HU.o.1];grind
     exact j0.o j zo),trivial⟩
    grind [RowKit.intOf]
  have zl:=zn i (I l)
  have HE:zH (decide (x∈l)=false):=zh (decide_eq_false λhx=>by
   obtain⟨j,h1,h2⟩:=sG.1 hx;exact j0.o j zo h2)
  go_wp2;go_ret;exact zzBp
def sW (n:Nat) (v:Value) (l:List Int) (w w':ω):Prop:=dA w' v l/\(∀ g,β v=some g->n<=g)/\Below n w w'
theorem lX (va vb:Value) (a b:List Int) (w:ω) (ha:dA w va a) (hb:dA w vb b) (X5:I a<=100000) (qh:I b<=100000):
 Γ 34 #[va,vb] w λe w'=>∃ ao cap,e=ρ (τ ao (I (dH a b)) cap)/\sW w.t (τ ao (I (dH a b)) cap) (dH a b) w w':=by
 have ve:=Θ X5 qh;have HBV:zH (∀ i,i<I b->∃ g cap,vb=σ g (I b) cap/\g<w.t/\w.i g i (χ b i 0)):=zh (λi hi=>by
  rcases aY hb with⟨_,h0⟩|⟨g,cap,e,_,hg⟩
  . omega
  subst e
  exact⟨g,cap,rfl,hg,aJ hb i _ (gP hi)⟩)
 obtain⟨aob,cb,NK⟩:=hb.form;obtain⟨aoa,ca,BH⟩:=ha.form;subst NK BH;clear X5 qh;go_in;go_upto_region 3 with (at_builtin;refine lK _ rfl _ _ rfl oY _ _ _ rfl zzB8 _ (I a) (dP a) rfl (by exact ha) (nums_one a) (by have:=ve.o;omega) zd ?_;intro v1 w1 qc QE YI);have HN:zH (sW w.t v1 a w w1):=zh ⟨by have h:=qc;rw[Nat.zero_add] at h;exact h,λg hg=>by
  rcases YI with e|e
  . rw[hg] at e;cases e
  grind,(zBr _ w).grown QE bR (λg hg=>by cases hg)⟩
 obtain⟨ao1,c1,CZ⟩:=HN.o.1.form;subst CZ;go_wp2_with fail;go_loopw [5,6] (λs5 s6 wr=>∃ (i:Nat) (o:List Int) (ao:Option Addr) (cap:Nat),s6=ι i/\s5=τ ao (I o) cap/\i<=I b/\o=dH a (b.take i)/\sW w.t (τ ao (I o) cap) o w wr) (λ_ s6 _=>I b-(ϑ s6).toNat)
 case atStart=>exact⟨0,a,ao1,c1,rfl,rfl,zo,rfl,HN.o⟩
 case round=>
  obtain⟨i,o,ao,cap,rfl,rfl,hi,ho,hN⟩:=hrel;have HO:=zh ho;have HN:=zh hN;have:I o<=200000:=by
   have:=zel (b.take i) a;have:I (b.take i)<=I b:=by rw[List.length_take];omega
   have:=ve.o;rw[ho];omega
  clear ho hN;by_cases Hf:i<I b
  . obtain⟨g,xq,e,hg,c0⟩:=HBV.o i Hf
    cases e;have c0':wr.i g i (χ b i 0):=(aG HN.o.2.2 (g.p i) hg).trans c0;have:g<wr.t:=zLd hg HN.o.2.2.size;have zl:=zt i (I b)
    have:=zW i (by have:=ve.o;omega);have Kd:b.take (i+1)=b.take i++[χ b i 0]:=by
     rw[List.take_add_one,zLf,zLe Hf];rfl
    have V0:zH (dH a (b.take (i+1))=if χ b i 0∈o then o else o++[χ b i 0]):=zh (by
     rw[Kd,HO.o]
     grind [dH])
    generalize b.getD i 0=u at c0' V0;have HK:=zh (has_any (τ ao (I o) cap) o u wr HN.o.1 zo);by_cases hm:u∈o
    . rw[decide_eq_true hm] at HK
      have FV:zH (o=dH a (b.take (i+1))):=zh (by rw[V0.o,zP hm]);go_wp2_with (first|(have H0:=HK.o;go_at_call 76;refine H0.mono ?_;rintro e' w2 ⟨rfl,rfl⟩));go_roundw
      case rel=>exact⟨i+1,o,ao,cap,by go_num,rfl,zo,FV.o,HN.o⟩
      grind [RowKit.intOf]
    rw[decide_eq_false hm] at HK
    have FV:zH (o++[u]=dH a (b.take (i+1))):=zh (by rw[V0.o,zN hm]);go_upto_region 8 with (have H0:=HK.o;go_at_call 76;refine H0.mono ?_;rintro e' w2 ⟨rfl,rfl⟩)
    go_wp2_with (first|(at_builtin;refine bM _ rfl _ _ rfl oY _ _ _ rfl (by exact aN HN.o.1 (iM.alloc bR _)) w2.z 1 1 [ι u] rfl rfl (cI _ #[ι u] _ _ rfl) zzAU zd zo zd ?_;intro v4 w4 Hr ql Qu));have LH:zH (sW w.t v4 (o++[u]) w w4):=zh (by
     have hr:=Hr;have Hv:=HN.o.2.2.size;refine⟨by unfold dA dP;rw[zLn,List.map_append];exact hr,?_,?_⟩
     . exact iB Qu HN.o.2.1 zx
     exact iK (HN.o.2.2.trans ((zBr _ w2).alloc Hv _)) ql zx HN.o.2.1)
    obtain⟨x5,c4,Ij⟩:=LH.o.1.form;subst Ij;go_roundw
    case rel=>exact⟨i+1,o++[u],x5,c4,by go_num,rfl,zo,FV.o,LH.o⟩
    grind [RowKit.intOf]
  have zl:=zn i (I b)
  have ez:zH (o=dH a b):=zh (by rw[HO.o,List.take_of_length_le zo]);go_wp2;go_ret;rw[<-ez.o];exact⟨ao,cap,rfl,HN.o⟩
def gE (l:ο):List Int:=l.map λ(n:Nat)=>(n:Int)
theorem mL (a b:ο):gE (dH a b)=dH (gE a) (gE b):=zhz _ (λx y h=>zo) b a
theorem bZ (l:ο):I (gE l)=I l:=by simp[gE]
abbrev Rng:=θ
structure MS where
 vR:Value
 vL:Value
 vF:Value
 fv:ζ
structure MD where
 rL:List (Value×Rng)
 last:List Int
 fL:List ο
 on:Bool
def Mut (mb:Nat) (S:MS) (b:Nat):Prop:=b=mb\/β S.vR=some b\/β S.vL=some b\/β S.vF=some b
def iN (mb:Nat) (S:MS) (w:ω) (v:Value) (l:ο):Prop:=dA w v (gE l)/\∀ g,β v=some g->¬ Mut mb S g
def yW (mb:Nat) (S:MS) (w:ω) (v:Value) (l:Rng):Prop:=w.r 196 2 v (I l) (fW l)/\∀ g,β v=some g->¬ Mut mb S g
structure nZ (B mb:Nat) (N:List Nd) (nl:Value) (D:MD) (S:MS) (w:ω):Prop where
 blk:w.h mb #[nl,S.vR,S.vL,S.vF,φ D.on] 110
 nrow:w.r 192 5 nl (I N) (iW N)
 nfree:∀ g,β nl=some g->¬ Mut mb S g
 nrg:∀ d∈N,yW mb S w d.r d.rl
 rR:w.r 190 1 S.vR (I D.rL) (D.rL.map (·.1))
 rr:∀ p∈D.rL,yW mb S w p.1 p.2
 lR:dA w S.vL D.last
 fR:w.r 24 1 S.vF (I D.fL) S.fv
 fli:∀ (i:Nat) (v:Value),S.fv[i]?=some v->iN mb S w v (χ D.fL i [])
 a1:β S.vR≠some mb/\β S.vL≠some mb/\β S.vF≠some mb
 a2:∀ g,β S.vR=some g->β S.vL≠some g/\β S.vF≠some g
 a3:∀ g,β S.vL=some g->β S.vF≠some g
 low:0<B/\∀ b,Mut mb S b->B<=b
structure oN (mb:Nat) (S S':MS) (w w':ω):Prop where
 os:w'.os=w.os
 tape:w'.tape=w.tape
 output:w'.output=w.output
 size:w.heap.size<=w'.heap.size
 keep:∀ b,b<w.heap.size->¬ Mut mb S b->w'.e w b
 new:∀ b,Mut mb S' b->Mut mb S b\/w.t<=b
theorem oN.refl (mb:Nat) (S:MS) (w:ω):oN mb S S w w:=⟨rfl,rfl,rfl,bR,λ_ _ _=>rfl,λ_ h=>.inl h⟩
theorem oN.trans {S T U:MS} {v:ω} (h:oN mb S T u v) (k:oN mb T U v w):oN mb S U u w:=
 ⟨k.os.trans h.os,k.tape.trans h.tape,k.output.trans h.output,zT h.size k.size,
  λb hb h1=>(k.keep b (zLd hb h.size) (λe=>by rcases h.new b e with e|e;exact h1 e;omega)).trans (h.keep b hb h1),
  λb hb=>by
   rcases k.new b hb with e|e
   . exact h.new b e
   exact .inr (zT h.size e)⟩
theorem oN.of_below {S:MS} (h:u.u w):oN mb S S u w:=⟨h.os,h.tape,h.output,h.size,λb hb _=>h.block b hb,λ_ h=>.inl h⟩
theorem oN.below {B:Nat} {S T:MS} (h:oN mb S T u w) (hB:B<=u.t) (hl:∀ b,Mut mb S b->B<=b):Below B u w:=
 ⟨h.os,h.tape,h.output,h.size,λb hb=>h.keep b zo (λe=>zg)⟩
theorem oN.set {S:MS} (b o:Nat) (u:Value) (h:Mut mb S b):oN mb S S w (ς w (b.p o) u):=
 ⟨rfl,rfl,rfl,zs,λc _ hc=>aD _ _ _ _ (λe=>hc zg),λ_ h=>.inl h⟩
theorem yW.lt {S:MS} {l:Rng} (h:yW mb S w v l):∀ g,β v=some g->g<w.t:=zbL h.1
theorem iN.keep {S T:MS} (h:iN mb S w v l) (k:oN mb S T w w'):iN mb T w' v l:=
 ⟨aU h.1 λg hg=>k.keep g (h.1.lt g hg) (h.2 g hg),λg hg e=>by
  rcases k.new g e with e|e
  . exact h.2 g hg e
  have:=h.1.lt g hg;omega⟩
theorem yW.keep {S T:MS} {l:Rng} (h:yW mb S w v l) (k:oN mb S T w w'):yW mb T w' v l:=
 ⟨aU h.1 λg hg=>k.keep g (h.lt g hg) (h.2 g hg),λg hg e=>by
  rcases k.new g e with e|e
  . exact h.2 g hg e
  have:=h.lt g hg;omega⟩
section
variable {B mb:Nat} {N:List Nd} {nl:Value} {D:MD} {S:MS} {w w':ω}
theorem eE {n:Nat} {xs:ζ} (h:w.r e size v n xs):∀ g,β v=some g->g<w.t:=λg hg=>(h.lt g hg).2
theorem nZ.lt (h:nZ B mb N nl D S w):mb<w.t:=aA h.blk
theorem nZ.mlt (h:nZ B mb N nl D S w):∀ b,Mut mb S b->b<w.t:=λb hb=>by
 rcases hb with rfl|e|e|e
 . exact h.lt
 . exact eE h.rR b e
 . exact eE h.lR b e
 exact eE h.fR b e
theorem nZ.below (h:nZ B mb N nl D S w) (hb:w.u w'):nZ B mb N nl D S w':=by
 have k:oN mb S S w w':=oN.of_below hb;exact⟨(hb.block _ h.lt).trans h.blk,aN h.nrow hb,h.nfree,λd hd=>(h.nrg d hd).keep k,aN h.rR hb,λp hp=>(h.rr p hp).keep k,aN h.lR hb,aN h.fR hb,λi v hv=>(h.fli i v hv).keep k,h.a1,h.a2,h.a3,h.low⟩
theorem nZ.cells (h:nZ B mb N nl D S w):w.v mb 0 nl/\w.v mb 1 S.vR/\w.v mb 2 S.vL/\w.v mb 3 S.vF/\w.v mb 4 (φ D.on):=
 ⟨by rw[zQ 0 h.blk];rfl,by rw[zQ 1 h.blk];rfl,by rw[zQ 2 h.blk];rfl,by rw[zQ 3 h.blk];rfl,by rw[zQ 4 h.blk];rfl⟩
theorem nZ.setOn (h:nZ B mb N nl D S w) (x:Bool):nZ B mb N nl {D with on:=x} S (ς w (mb.p 4) (φ x)):=by
 have k:oN mb S S w (ς w (mb.p 4) (φ x)):=oN.set mb 4 _ (.inl rfl);have hk:∀ g,g≠mb->(ς w (mb.p 4) (φ x)).e w g:=λg hg=>aD _ _ _ _ hg
 exact⟨by rw[aB w mb 4 _ _ _ _ h.blk];rfl,aU h.nrow λg hg=>hk g (λe=>h.nfree g hg (.inl e)),h.nfree,λd hd=>(h.nrg d hd).keep k,aU h.rR λg hg=>hk g (λe=>h.a1.1 (e▸hg)),λp hp=>(h.rr p hp).keep k,aU h.lR λg hg=>hk g (λe=>h.a1.2.1 (e▸hg)),aU h.fR λg hg=>hk g (λe=>h.a1.2.2 (e▸hg)),λi v hv=>(h.fli i v hv).keep k,h.a1,h.a2,h.a3,h.low⟩
theorem zau {S T:MS} {o:Nat} (h:nZ B mb N nl D S w) (ob:Obj) (hv:∀ g,β v=some g->Mut mb S g) (hg:(κ w ob).grownBy w2 (β v))
 (hT:∀ b,Mut mb T b->Mut mb S b\/β v'=some b) (qh:β v'=β v\/β v'=some (κ w ob).heap.size):oN mb S T w (ς w2 (mb.p o) v'):=by
 have Yk:(κ w ob).heap.size=w.heap.size+1:=zs
 have:w.heap.size+1<=w2.heap.size:=by rw[<-Yk];exact hg.size
 refine⟨hg.os,hg.tape,hg.output,by simp[World.setCell];omega,λb hb hn=> ?_,λb hb=> ?_⟩
 . rw[aD _ _ _ _ (λe=>hn (.inl e)),hg.block b zo (λe=>hn (hv b e.symm))]
   exact (Ξ w ob).block b hb
 grind
theorem eD {b:Nat} (hb:b<w.t) (hg:(κ w ob).grownBy w2 (β v)) (qg:β v≠some b):w2.e w b:=by
 have:(κ w ob).heap.size=w.heap.size+1:=zs
 rw[hg.block b zo (λe=>qg e.symm)];exact (Ξ w ob).block b hb
theorem nZ.pushR (h:nZ B mb N nl D S w) {r:Value} {l:Rng} (hr:yW mb S w r l)
 (Hb:w2.r 190 1 v' (I D.rL+1) (D.rL.map (·.1)++[r])) (hg:(κ w ob).grownBy w2 (β S.vR)) (qh:β v'=β S.vR\/β v'=some (κ w ob).heap.size):
 nZ B mb N nl {D with rL:=D.rL++[(r,l)]} {S with vR:=v'} (ς w2 (mb.p 1) v')/\oN mb S {S with vR:=v'} w (ς w2 (mb.p 1) v'):=by
 have:(κ w ob).heap.size=w.heap.size+1:=zs
 have hT:∀ b,Mut mb {S with vR:=v'} b->Mut mb S b\/β v'=some b:=λb hb=>by
  rcases hb with e|e|e|e
  . exact .inl (.inl e)
  . grind
  . exact .inl (.inr (.inr (.inl e)))
  exact .inl (.inr (.inr (.inr e)))
 have k:oN mb S {S with vR:=v'} w (ς w2 (mb.p 1) v'):=zau h ob (λg hg=>.inr (.inl hg)) hg hT qh;have hv:∀ g,β v'=some g->β S.vR=some g\/w.t<=g:=λg Q2=>by
  grind
 have T0:β v'≠some mb:=λe=>by
  rcases hv mb e with e|e
  . exact h.a1.1 e
  have:=h.lt;omega
 have qg:∀ g,g≠mb->(ς w2 (mb.p 1) v').e w2 g:=λg hg=>aD _ _ _ _ hg;have K6:∀ g,¬ Mut mb S g->g<w.t->¬ Mut mb {S with vR:=v'} g:=λg h1 h2 h3=>by
  exact zzDG
 refine⟨⟨?_,aU h.nrow λg hg=>k.keep g (eE h.nrow g hg) (h.nfree g hg),λg hg=>K6 g (h.nfree g hg) (eE h.nrow g hg),λd hd=>(h.nrg d hd).keep k,?_,?_,?_,?_,λi v hv=>(h.fli i v hv).keep k,⟨T0,h.a1.2⟩,λg Q2=> ?_,h.a3,h.low.1,λb hb=> ?_⟩,k⟩
 . rw[aB w2 mb 1 _ _ _ _ ((eD h.lt hg h.a1.1).trans h.blk)];rfl
 . grind [aU]
 . intro p hp
   rcases List.mem_append.1 hp with h1|h1
   . exact (h.rr p h1).keep k
   rw[zMs] at h1;subst h1;exact hr.keep k
 . refine aU h.lR λg xh=> ?_
   rw[qg g (λe=>h.a1.2.1 (e▸xh)),eD (eE h.lR g xh) hg (λe=>(h.a2 g e).1 xh)]
 . refine aU h.fR λg xh=> ?_
   rw[qg g (λe=>h.a1.2.2 (e▸xh)),eD (eE h.fR g xh) hg (λe=>(h.a2 g e).2 xh)]
 . rcases hv g Q2 with e|e
   . exact h.a2 g e
   exact⟨λe2=>by have:=eE h.lR g e2;omega,λe2=>by have:=eE h.fR g e2;omega⟩
 exact zzBR
theorem nZ.pushL (h:nZ B mb N nl D S w) {x:Int}
 (Hb:w2.r 3 1 v' (I D.last+1) (dP D.last++[ι x])) (hg:(κ w ob).grownBy w2 (β S.vL)) (qh:β v'=β S.vL\/β v'=some (κ w ob).heap.size):
 nZ B mb N nl {D with last:=D.last++[x]} {S with vL:=v'} (ς w2 (mb.p 2) v')/\oN mb S {S with vL:=v'} w (ς w2 (mb.p 2) v'):=by
 have:(κ w ob).heap.size=w.heap.size+1:=zs
 have hT:∀ b,Mut mb {S with vL:=v'} b->Mut mb S b\/β v'=some b:=λb hb=>by
  rcases hb with e|e|e|e
  . exact .inl (.inl e)
  . exact .inl (.inr (.inl e))
  . grind
  exact .inl (.inr (.inr (.inr e)))
 have k:oN mb S {S with vL:=v'} w (ς w2 (mb.p 2) v'):=zau h ob (λg hg=>.inr (.inr (.inl hg))) hg hT qh;have hv:∀ g,β v'=some g->β S.vL=some g\/w.t<=g:=λg Q2=>by
  grind
 have T0:β v'≠some mb:=λe=>by
  rcases hv mb e with e|e
  . exact h.a1.2.1 e
  have:=h.lt;omega
 have qg:∀ g,g≠mb->(ς w2 (mb.p 2) v').e w2 g:=λg hg=>aD _ _ _ _ hg;have K6:∀ g,¬ Mut mb S g->g<w.t->¬ Mut mb {S with vL:=v'} g:=λg h1 h2 h3=>by
  exact zzDG
 refine⟨⟨?_,aU h.nrow λg hg=>k.keep g (eE h.nrow g hg) (h.nfree g hg),λg hg=>K6 g (h.nfree g hg) (eE h.nrow g hg),λd hd=>(h.nrg d hd).keep k,?_,λp hp=>(h.rr p hp).keep k,?_,?_,λi v hv=>(h.fli i v hv).keep k,⟨h.a1.1,T0,h.a1.2.2⟩,λg Q2=> ?_,λg Q2=> ?_,h.low.1,λb hb=> ?_⟩,k⟩
 . rw[aB w2 mb 2 _ _ _ _ ((eD h.lt hg h.a1.2.1).trans h.blk)];rfl
 . refine aU h.rR λg xh=> ?_
   rw[qg g (λe=>h.a1.1 (e▸xh)),eD (eE h.rR g xh) hg (h.a2 g xh).1]
 . grind [aU,dA,dP]
 . refine aU h.fR λg xh=> ?_
   rw[qg g (λe=>h.a1.2.2 (e▸xh)),eD (eE h.fR g xh) hg (λe=>h.a3 g e xh)]
 . refine⟨λe=> ?_,(h.a2 g Q2).2⟩
   rcases hv g e with e|e
   . exact (h.a2 g Q2).1 e
   have:=eE h.rR g Q2;omega
 . rcases hv g Q2 with e|e
   . exact h.a3 g e
   exact λe2=>by have:=eE h.fR g e2;omega
 exact zzBR
theorem nZ.pushF (h:nZ B mb N nl D S w) 
 (Hb:w2.r 24 1 v' (I D.fL+1) (S.fv++[τ none 0 0])) (hg:(κ w ob).grownBy w2 (β S.vF)) (qh:β v'=β S.vF\/β v'=some (κ w ob).heap.size):
 nZ B mb N nl {D with fL:=D.fL++[[]]} {S with vF:=v',fv:=S.fv++[τ none 0 0]} (ς w2 (mb.p 3) v')/\oN mb S {S with vF:=v',fv:=S.fv++[τ none 0 0]} w (ς w2 (mb.p 3) v'):=by
 have Yk:(κ w ob).heap.size=w.heap.size+1:=zs
 have hT:∀ b,Mut mb {S with vF:=v',fv:=S.fv++[τ none 0 0]} b->Mut mb S b\/β v'=some b:=λb hb=>by
  rcases hb with e|e|e|e
  . exact .inl (.inl e)
  . exact .inl (.inr (.inl e))
  . exact .inl (.inr (.inr (.inl e)))
  grind
 have k:oN mb S {S with vF:=v',fv:=S.fv++[τ none 0 0]} w (ς w2 (mb.p 3) v'):=zau h ob (λg hg=>.inr (.inr (.inr hg))) hg hT qh;have hv:∀ g,β v'=some g->β S.vF=some g\/w.t<=g:=λg Q2=>by
  grind
 have T0:β v'≠some mb:=λe=>by
  rcases hv mb e with e|e
  . exact h.a1.2.2 e
  have:=h.lt;omega
 have qg:∀ g,g≠mb->(ς w2 (mb.p 3) v').e w2 g:=λg hg=>aD _ _ _ _ hg;have K6:∀ g,¬ Mut mb S g->g<w.t->¬ Mut mb {S with vF:=v',fv:=S.fv++[τ none 0 0]} g:=λg h1 h2 h3=>by
  exact zzDG
 have Yi:I S.fv=I D.fL:=by have:=h.fR.1;omega
 refine⟨⟨?_,aU h.nrow λg hg=>k.keep g (eE h.nrow g hg) (h.nfree g hg),λg hg=>K6 g (h.nfree g hg) (eE h.nrow g hg),λd hd=>(h.nrg d hd).keep k,?_,λp hp=>(h.rr p hp).keep k,?_,?_,λi v hv=> ?_,⟨h.a1.1,h.a1.2.1,T0⟩,λg Q2=> ?_,λg Q2 e=> ?_,h.low.1,λb hb=> ?_⟩,k⟩
 . rw[aB w2 mb 3 _ _ _ _ ((eD h.lt hg h.a1.2.2).trans h.blk)];rfl
 . refine aU h.rR λg xh=> ?_
   rw[qg g (λe=>h.a1.1 (e▸xh)),eD (eE h.rR g xh) hg (h.a2 g xh).2]
 . refine aU h.lR λg xh=> ?_
   rw[qg g (λe=>h.a1.2.1 (e▸xh)),eD (eE h.lR g xh) hg (h.a3 g xh)]
 . grind [aU]
 . rcases zLg i (I S.fv) with hi|hi
   . have Rr:S.fv[i]?=some v:=by rw[<-hv];exact (zGl hi).symm
     have e:χ (D.fL++[[]]) i []=χ D.fL i []:=by
      rw[zLf,zGl zo,<-zLf]
     show iN _ _ _ v (χ (D.fL++[[]]) i []);rw[e];exact (h.fli i v Rr).keep k
   have Rr:(S.fv++[Value.slice none 0 0])[i]?=some v:=hv
   have Yj:i=I S.fv:=by
    have:=(List.getElem?_eq_some_iff.1 Rr).1;simp at this;omega
   subst Yj;simp at Rr;subst Rr;have e:χ (D.fL++[[]]) (I S.fv) []=[]:=by
    rw[Yi,zLf];simp
   show iN _ _ _ _ (χ (D.fL++[[]]) (I S.fv) []);rw[e];exact⟨dA.nil _,λg hg=>by cases hg⟩
 . refine⟨(h.a2 g Q2).1,λe=> ?_⟩
   rcases hv g e with e|e
   . exact (h.a2 g Q2).2 e
   have:=eE h.rR g Q2;omega
 . rcases hv g e with e|e
   . exact h.a3 g Q2 e
   have:=eE h.lR g Q2;omega
 exact zzBR
theorem nZ.setF (h:nZ B mb N nl D S w) {gF:Nat} {cap:Nat} (Ke:S.vF=σ gF (I D.fL) cap) (hi:i<I D.fL) (hl:iN mb S w v l) (h1:v.oneCell'=true):
 nZ B mb N nl {D with fL:=D.fL.set i l} {S with fv:=S.fv.set i v} (ς w (gF.p i) v)/\oN mb S {S with fv:=S.fv.set i v} w (ς w (gF.p i) v):=by
 have hgm:Mut mb S gF:=.inr (.inr (.inr (by rw[Ke];rfl)));have YQ:oN mb S S w (ς w (gF.p i) v):=oN.set gF i v hgm;have k:oN mb S {S with fv:=S.fv.set i v} w (ς w (gF.p i) v):=⟨YQ.os,YQ.tape,YQ.output,YQ.size,YQ.keep,λb hb=>.inl hb⟩;have qg:∀ g,g≠gF->(ς w (gF.p i) v).e w g:=λg hg=>aD _ _ _ _ hg;have hF:β S.vF=some gF:=by rw[Ke];rfl
 have:I S.fv=I D.fL:=by have:=h.fR.1;omega
 refine⟨⟨(qg mb (λe=>h.a1.2.2 (e▸hF))).trans h.blk,aU h.nrow λg hg=>qg g (λe=>h.nfree g hg (e▸hgm)),h.nfree,λd hd=>(h.nrg d hd).keep k,aU h.rR λg hg=>qg g (λe=>(h.a2 g hg).2 (e▸hF)),λp hp=>(h.rr p hp).keep k,aU h.lR λg hg=>qg g (λe=>h.a3 g hg (e▸hF)),?_,λj u hu=> ?_,h.a1,h.a2,h.a3,h.low⟩,k⟩
 . have hr:=h.fR
   rw[Ke] at hr;obtain⟨r1,r2|⟨g',xq,X0,hv,hb,hg,nv,y7,YA,XV⟩⟩:=hr
   . omega
   exact zzA9
 have ff:(S.fv.set i v)[j]?=some u:=hu
 show iN _ _ _ u (χ (D.fL.set i l) j []);by_cases KY:i=j
 . subst KY
   rw[List.getElem?_set_self zo] at ff;cases ff;have e:χ (D.fL.set i l) i []=l:=by rw[zLf,List.getElem?_set_self hi];rfl
   rw[e];exact hl.keep k
 rw[List.getElem?_set_ne KY] at ff
 have e:χ (D.fL.set i l) j []=χ D.fL j []:=by rw[zLf,List.getElem?_set_ne KY,<-zLf]
 rw[e];exact (h.fli j u ff).keep k
end
theorem zbV (h:i<I l):χ (gE l) i 0=((χ l i 0:Nat):Int):=by
 grind [gE]
theorem dD {n:Nat} (h:l.Nodup) (hl:∀ x∈l,x<n):I l<=n:=zfG n l h hl
theorem zdy {l:List ο} {f:ο->ο} (h:i<I l):l.modify i f=l.set i (f (χ l i [])):=by
 apply List.ext_getElem?
 grind
theorem zgC (a b:ο) (x:Nat) (F:List ο):eZ (a++[x]) b F=(eZ a b F).modify x (dH · b):=by
 grind [eZ]
theorem sK (h:i<I l):l.take (i+1)=l.take i++[χ l i 0]:=by
 simp_all
theorem zaJ (h:i<I l):χ l i 0∈l:=by
 grind
def LinkO (B mb:Nat) (N:List Nd) (nl:Value) (D:MD) (S:MS) (F:List ο) (w w':ω):Prop:=∃ fv,nZ B mb N nl {D with fL:=F} {S with fv:=fv} w'/\oN mb S {S with fv:=fv} w w'
theorem zcq (B mb:Nat) (N:List Nd) (nl:Value) (D:MD) (S:MS) (w:ω) (h:nZ B mb N nl D S w) (va vb:Value) (a b:ο) (ha:iN mb S w va a) (hb:iN mb S w vb b)
 (hax:∀ x∈a,x<I D.fL) (Yp:∀ x∈b,x<I D.fL) (hF:zeY D.fL) (qo:I D.fL<=65) (X5:I a<=65) (qh:I b<=65):
 Γ 75 #[bH mb,va,vb] w λe w'=>e=ρ (ϕ #[])/\LinkO B mb N nl D S (eZ a b D.fL) w w':=by
 obtain⟨aoa,ca,rfl⟩:=ha.1.form;obtain⟨aob,cb,rfl⟩:=hb.1.form;rw[bZ] at ha hb ⊢;rw[bZ];have HX:=Ψ hax Yp hF (zAi qo (zAi X5 qh));clear hax Yp hF qo X5 qh;unfold bH;go_in;go_wp2_with fail
 go_loopw [6] (λs6 wr=>∃ (i:Nat) (F:List ο) (fv:ζ),s6=ι i/\i<=I a/\F=eZ (a.take i) b D.fL/\nZ B mb N nl {D with fL:=F} {S with fv:=fv} wr/\oN mb S {S with fv:=fv} w wr) (λs6 _=>I a-(ϑ s6).toNat)
 case atStart=>exact⟨0,D.fL,S.fv,rfl,zo,rfl,h,oN.refl _ _ _⟩
 case round=>
  obtain⟨i,F,fv,rfl,hi,El,hm,hk⟩:=hrel;by_cases Hf:i<I a
  . have p5:=HX.o
    have hFl:I F=I D.fL:=by rw[El,nO]
    have Ze:zeY F:=by rw[El];exact zaQ _ _ p5.2.2.1 p5.2.1
    have xf:=p5.1 _ (zaJ Hf);have VS:=(ha.keep hk).1;obtain⟨ga,UY,lga,cga⟩:∃ g,aoa=some ⟨g,0,none⟩/\g<wr.t/\wr.i g i (χ a i 0:Nat):=by
     grind [dA,aY,aJ,gP,zbV]
    subst UY;have Qo:zH (eZ (a.take (i+1)) b D.fL=F.set (χ a i 0) (dH (χ F (χ a i 0) []) b)):=zh (by
     grind [sK,zgC,zdy])
    generalize a.getD i 0=x at xf cga Qo;obtain⟨gF,capF,Ke,lgF⟩:∃ g c,S.vF=σ g (I F) c/\g<wr.t:=by
     rcases aY hm.fR with⟨_,h0⟩|⟨g,cap,e,_,hg⟩
     all_goals grind
    have oo:I fv=I F:=by have:=hm.fR.1;have h2:I fv=I F*1:=this;omega
    obtain⟨u,hu⟩:=zG fv x zo;have X7:=hm.fli x u hu;obtain⟨aou,cu,rfl⟩:=X7.1.form;have xv:=hm.fR;have xv:wr.r 24 1 S.vF (I F) fv:=xv;rw[Ke] at xv;have tQ:=aJ xv x _ hu;obtain⟨_,_,_,cm3,_⟩:=hm.cells;have cm3:wr.v mb 3 S.vF:=cm3;rw[Ke] at cm3;have Y6:=hm.lt;have iv:I (χ F x [])<=65:=by
     have YC:χ F x []∈F:=by
      rw[zLf,zLe zo];exact List.getElem_mem _
     have:=dD (Ze.nd _ YC) (Ze.lt _ YC);omega
    have HK:=zh (lX _ _ _ _ wr.drew (X7.1.below (zBr _ wr).drew) ((hb.keep hk).1.below (zBr _ wr).drew) (by rw[bZ];grind) (by rw[bZ];omega));rw[<-mL,bZ,bZ] at HK;have zl:=zt i (I a)
    have Zx:=zt x (I F)
    have yw:=mF i;rw[bZ] at tQ;have HM:=Λ hm hk xv;have HXF:zH (x<I F/\I fv=I F):=zh ⟨zo,oo⟩;clear hm hk xv El Ze hu X7 p5 VS hFl iv oo xf;generalize dH (χ F x []) b=J at HK Qo;generalize (I (χ F x []))=nu at HK tQ;go_upto_region 3 with fail
    refine zzAl ?_;refine bV (λw'=>w'.v mb 3 (σ gF (I F) capF)/\w'.i ga i (x:Nat)/\w'.v gF x (τ aou nu cu)) 23 zr ⟨cm3,cga,tQ⟩ (λHc=> ?_);refine zzAC ?_;refine zzAt ?_;refine aE 14 Hc ?_;refine aE 15 Hc ?_;refine aE 16 Hc ?_;refine aE 17 Hc ?_;refine aE 18 Hc ?_;refine aE 19 Hc ?_;refine aE 20 Hc ?_;refine bY 21 (λK hK=> ?_);go_simp;go_at_call 34;refine HK.o.mono ?_;rintro e w2 ⟨Xe,c2,rfl,Dx⟩;have XG:sW wr.t (τ Xe (I J) c2) (gE J) wr w2:=⟨Dx.1,Dx.2.1,(zBr wr.t wr).drew.trans Dx.2.2⟩;have yy:=(zAi ((aG XG.2.2 (mb.p 3) Y6).trans cm3) (zAi ((aG XG.2.2 (ga.p i) lga).trans cga) ((aG XG.2.2 (gF.p x) lgF).trans tQ)));refine hK.out _ _ (λ_=>yy) ?_;(try simp only[Act.put,lA,lB,lC])
    refine aE 22 yy ?_;have yr:zH (nZ B mb N nl {D with fL:=F} {S with fv:=fv} w2/\oN mb S {S with fv:=fv} w w2):=zh ⟨HM.o.1.below XG.2.2,HM.o.2.1.trans (oN.of_below XG.2.2)⟩;have lgF2:gF<w2.t:=zLd lgF XG.2.2.size;obtain⟨bt,Do⟩:∃ cs,w2.h gF cs 24:=by
     have hr:=yr.o.1.fR;have hr:w2.r 24 1 S.vF (I F) fv:=hr;rw[Ke] at hr;obtain⟨_,h2|⟨g',xq,X0,hv,_,hg,_⟩⟩:=hr
     . omega
     cases hv;simp_all
    have fgF:=bN w2 gF x _ _ Do;have cgF2:w2.v gF x (τ aou nu cu):=(aG XG.2.2 (gF.p x) lgF).trans tQ;clear Do;refine bY 23 (λK hK=> ?_);go_simp;refine hK.out _ _ (λh=>absurd rfl h) ?_;refine zzAF ?_;refine zzAg ?_;have EE:iN mb {S with fv:=fv} w2 (τ Xe (I J) c2) J:=⟨XG.1,λg hg hm=>by
     have h1:=XG.2.1 g hg;have h2:=HM.o.1.mlt g hm;omega⟩
    have Ht:=yr.o.1.setF (gF:=gF) (cap:=capF) (i:=x) Ke HXF.o.1 EE rfl;have HS:=Θ Ht.1 (yr.o.2.trans Ht.2);generalize w2.setCell (gF.p x) (τ Xe (I J) c2)=w3 at HS ⊢;go_wp2;go_roundw
    case rel=>exact⟨i+1,_,_,by go_num,zo,Qo.o.symm,HS.o.1,HS.o.2⟩
    case measure=>exact zY
  have zl:=zn i (I a)
  have HR:zH (LinkO B mb N nl D S (eZ a b D.fL) w wr):=zh ⟨fv,by
   rw[List.take_of_length_le zo] at El;rw[<-El];exact hm,hk⟩
  go_wp2;go_end0;exact⟨rfl,HR.o⟩
