/- Part of a proof. No condition. -/
import Derived.Test.YtmfnmkccbldfpaaGreatDoorS09
import Derived.Test.YtmfnmkccbldfpaaGreatDoorS19
set_option linter.unusedVariables false
set_option linter.unusedSimpArgs false
set_option maxRecDepth 100000
set_option maxHeartbeats 40000000
namespace Go.Proofs.YtmfnmkccbldfpaaGreatDoor
theorem zzDd {p:Prop} (h:p:=by
 show (#[Value.int .u64 0,.int .u64 0]:Array Value)[i%2]! =_
 grind):p:=h
theorem zzDQ {p:Prop} (h:p:=by rw[h.t1];decide):p:=h
theorem zzC8 {p:Prop} (h:p:=by rw[h.t6.1];decide):p:=h
theorem zzBT {p:Prop} (h:p:=by
 go_roundw
 case rel=>exact⟨j+1,by go_num,zo,by rw[HM.o];exact Q5.o⟩
 case measure=>exact zY):p:=h
theorem zzBH {p:Prop} (h:p:=by
 have h2:=(iS.far b7 i (wk+b7.far.getD m 0)).2.2 j;exact Int.le_trans h2 (Int.le_trans (h1.2.2 j) (Q3.o j))):p:=h
theorem zzAt {p q:Prop} (k:q) (h:q->p:=by intro zz;refine aE 8 Hc ?_;refine aE 9 Hc ?_;refine aE 10 Hc ?_;refine aE 11 Hc ?_;refine aE 12 Hc ?_;refine aE 13 Hc ?_;exact zz):p:=h k
theorem zzAa {p:Prop} (h:p:=by
 have QH:=zh (zAi h9 XN);clear h9 XN x0 x1 x2 fx av;go_wp2;go_roundw
 case rel=>
  have pn:=Uh.o;rw[<-Jt.o.1,<-Jt.o.2] at pn;refine⟨k+1,_,by go_num,zo,QH.o.1,yc.o.2.1.below QH.o.2,⟨f',zo,by rw[BQ.o];exact pn⟩,yc.o.2.2.2.1,by simpa using yc.o.2.2.2.2.1,λj=> ?_,yc.o.2.2.1.trans QH.o.2⟩;have h2:=(iS.far b7 i (wk+b7.far.getD m 0)).2.2 j;rw[<-Jt.o.1,<-Jt.o.2] at h2;exact Int.le_trans (yc.o.2.2.2.2.2 j) h2
 case measure=>exact zY):p:=h
theorem zzAH {p:Prop} (h:p:=by
 have xg:0<=b9.far.getD i 0/\b9.far.getD i 0<=1000000:=⟨QH.o.2.2.2.2.2.1 i,by
  have h1:=pS _ _ _ _ _ _ xe.o;exact Int.le_trans (h1.2.2 i) (Q3.o i)⟩
 have x0:=zq 0 QH.o.1.hf;have x1:=aJ QH.o.1.rf i _ (gP (by rw[QH.o.2.2.2.2.1];exact Hf));obtain⟨Fi,KE⟩:=zE (b9.far.getD i 0);rw[<-KE] at x1 xg;have V3:=HS.o.best0;have Tx:=zh (show eU T f (T.gO.length-(i+1)) (i+1) (max Qe Fi) b9=some (Hx,b2) by rw[KE];exact xe.o);clear KE;go_wp2;go_roundw
 case rel=>exact⟨i+1,max Qe Fi,b9,by go_num,rfl,zo,⟨QH.o.1,QH.o.2.1,Tx.o,QH.o.2.2.2.1,QH.o.2.2.2.2.1,QH.o.2.2.2.2.2.1,zo,QH.o.2.2.1⟩⟩
 case measure=>exact zY):p:=h
variable {l:List Int} {w w' wr w2:ω} {g n cap B b:Nat} {s:aZ} {T:dX} {sE:List aZ}
section
open Go.RowKit Go.Lib Tryz
theorem vB:∀ (a b:List Int),a.Pairwise (· < ·)->b.Pairwise (· < ·)->(∀ x,x∈a↔x∈b)->a=b
 | [],[],_,_,_=>rfl
 | [],y::b,_,_,h=>absurd ((h y).2 (List.mem_cons_self ..)) zs
 | x::a,[],_,_,h=>absurd ((h x).1 (List.mem_cons_self ..)) zs
 | x::a,y::b,ha,hb,h=>by
  obtain⟨a1,a2⟩:=List.pairwise_cons.1 ha;obtain⟨b1,b2⟩:=List.pairwise_cons.1 hb;have e:x=y:=by
   rcases List.mem_cons.1 ((h x).1 (List.mem_cons_self ..)) with e|hx
   . exact e
   grind [List.mem_cons_self]
  subst e;congr 1;refine vB a b a2 b2 λz=>⟨λhz=> ?_,λhz=> ?_⟩
  all_goals grind
theorem oT:∀ (l:List Int) (p:Int),(p::l).Pairwise (· <= ·)->(jX p l).Pairwise (· < ·)/\(∀ x∈jX p l,p<x)/\∀ x,(x=p\/x∈jX p l)↔(x=p\/x∈l)
 | [],p,_=>⟨by simp[jX],by simp[jX],λx=>zr⟩
 | y::l,p,h=>by
  obtain⟨h1,h2⟩:=List.pairwise_cons.1 h;have:=h1 y (List.mem_cons_self ..);rw[jX];split
  . rename_i e
    subst e;obtain⟨i1,i2,i3⟩:=oT l y h2
    grind
  rename_i e
  obtain⟨i1,i2,i3⟩:=oT l y h2
  grind [List.pairwise_cons]
theorem zdv (x:Int):∀ (l:List Int),l.Pairwise (· < ·)->(insU x l).Pairwise (· < ·)/\∀ y,y∈insU x l↔y=x\/y∈l
 | [],_=>⟨by simp[insU],λy=>by simp[insU]⟩
 | z::l,h=>by
  obtain⟨h1,h2⟩:=List.pairwise_cons.1 h;rw[insU];split
  . grind [List.pairwise_cons]
  split
  . grind
  rename_i hn he
  obtain⟨i1,i2⟩:=zdv x l h2
  grind [List.pairwise_cons]
theorem kI:∀ (l:List Int),(zf6 l).Pairwise (· < ·)/\∀ y,y∈zf6 l↔y∈l
 | []=>⟨List.Pairwise.nil,λy=>Iff.rfl⟩
 | x::l=>by
  obtain⟨i1,i2⟩:=kI l
  grind [zdv,zf6]
theorem comp_sort {l':List Int} (hp:l'.Perm l) (hs:l'.Pairwise (· <= ·)):zc9 l'=zf6 l:=by
 obtain⟨s1,s2⟩:=kI l;have:∀ x,x∈zc9 l'↔x∈l':=by
  intro x;cases l' with
  | nil=>rfl
  | cons a r=>
   have:=(oT r a hs).2.2 x;show x∈a::jX a r↔_
   grind
 refine vB _ _ ?_ s1 λx=>by grind
 cases l' with
 | nil=>decide
 | cons a r=>
  obtain⟨h1,h2,_⟩:=oT r a hs;exact List.pairwise_cons.2 ⟨h2,h1⟩
theorem zea:eO prog 180 21 1 4:=eO.of (z:=ξ 0) underlying180 zK rfl zd
def zfV (l:List Int):ζ:=l.map (Value.int .i32)
theorem rowAt_of (h:w.r 21 1 (σ g n cap) n (zfV l)):∃ r,eP w g l.toArray r/\I l=n/\n<=cap:=by
 obtain⟨h1,h2|⟨g',xq,X0,hv,hb,hg,nv,y7,YA,XV⟩⟩:=h
 . grind
 cases hv
 refine⟨X0.toList.drop n,?_,by simpa[zfV] using h1,nv⟩;unfold eP;rw[hg];congr 2;apply Array.ext';show X0.toList=l.map (Value.int .i32)++X0.toList.drop n;rw[Nat.mul_one] at XV;rw[show l.map (Value.int .i32)=X0.toList.take n from XV.symm,List.take_append_drop]
def Wid (w:ω):Prop:=∀ (j:Nat) (u:Value),(zfV cJ)[j]?=some u->w.v 3 j u
theorem Wid.below (h:Wid w) (hb:Below B w w') (hB:jV<=B):Wid w':=λj u hu=>(aG hb ⟨3,j,none⟩ zg).trans (h j u hu)
theorem zfi (ad:Addr) (m cap:Nat) (w:ω):(binOp .eql 180 (τ (some ad) m cap) ν).run prog w=.ok (φ false) w:=by kernel_rfl
theorem clone_any (ad:Addr) (m cap:Nat) (l:ζ) (w:ω) (hm:0<m) (hl:I l=m) (h1:∀ u∈l,u.oneCell'=true) (T0:m<=1000000) (hc:∀ (j:Nat) (u:Value),l[j]?=some u->w.cell? (ad.add j)=some u) (Hf:ad.block<w.t):
 Γ 105 #[τ (some ad) m cap] w λe w'=>∃ v,e=ρ v/\w'.r 21 1 v m l/\(∀ g,β v=some g->w.t<=g)/\w.u w':=by
 have:=zfi ad m cap;go_in;have hB:=(zBr w.t w).alloc bR (Ω #[] 21);have Vf:(κ w (Ω #[] 21)).r 21 1 (σ w.t 0 0) 0 []:=
  ⟨rfl,.inr ⟨w.t,0,#[],rfl,rC,by rw[aV,zP rfl],bR,zd,rfl,rfl⟩⟩
 have kx:∀ (j:Nat) (u:Value),l[j]?=some u->(κ w (Ω #[] 21)).cell? (ad.add j)=some u:=λj u hu=>(aG hB (ad.add j) (by grind [Addr.add])).trans (hc j u hu);go_wp2_with (at_builtin;refine bM _ rfl _ _ rfl zea _ _ _ rfl (by exact Vf) ad m cap l rfl (by rw[Nat.mul_one];exact hl) kx h1 hm zo zd ?_;intro v1 w1 qc QE YI;obtain⟨gz,cz,rfl⟩:=(show ∃ g c,v1=σ g (0+m) c from by grind [aY]));go_ret;rw[Nat.zero_add] at qc
 have QX:β (Value.slice (some gz.a) m cz)=β (Value.slice (some w.z) 0 0)\/β (Value.slice (some gz.a) m cz)=some (κ w (Ω #[] 21)).heap.size:=YI;have Qp:(κ w (Ω #[] 21)).grownBy w1 (β (Value.slice (some w.z) 0 0)):=QE;refine⟨_,rfl,by simp_all,λg hg=> ?_,iK (B:=w.t) hB Qp zs (λg hg=>by cases hg;simp)⟩;have QY:β (Value.slice (some gz.a) m cz)=some g:=hg
 rcases QX with e|e
 . rw[QY] at e;cases e;simp
 rw[QY] at e;simp_all
theorem zhd (b j:Nat):(b.a:Addr).add j=(b.p j):=by grind [Addr.add]
def iF (c:θ):Prop:=∀ r∈c,0<=r.1/\r.1<=1114111/\0<=r.2/\r.2<=1114111
structure CuSt (w:ω) (bl:Nat) (L:iT) (l:List Int) (g cap:Nat) (wr:ω):Prop where
 row:wr.r 21 1 (σ g (I l) cap) (I l) (zfV l)
 new:w.t<=g
 below:w.u wr
theorem CuSt.alloc {bl:Nat} {L:iT} (h:CuSt w bl L l g cap wr) (o:Obj):CuSt w bl L l g cap (κ wr o):=⟨h.row.alloc o,h.new,h.below.alloc h.below.size o⟩
theorem CuSt.push {bl:Nat} {L:iT} (h:CuSt w bl L l g cap wr) (x:Int) (ob:Obj) (v':Value) (Hb:w2.r 21 1 v' (I l+1) (zfV l++[ξ x]))
 (hg:(κ wr ob).g w2 g) (qh:β v'=some g\/β v'=some (κ wr ob).heap.size):∃ g' xq,v'=σ g' (I (l++[x])) xq/\CuSt w bl L (l++[x]) g' xq w2:=by
 have hB:w.u (κ wr ob):=h.below.alloc h.below.size ob
 rcases aY Hb with⟨_,h0⟩|⟨g',xq,e,_⟩
 . omega
 subst e
 have el:I (l++[x])=I l+1:=zs
 refine⟨g',xq,by rw[el],⟨by grind [zfV],?_,iK (v:=σ g 0 0) hB hg (by have:=h.below.size;simp;omega) (λg2 qk=>by cases qk;exact h.new)⟩⟩
 rcases qh with e|e
 . cases e;exact h.new
 have e2:g'=(κ wr ob).t:=by cases e;rfl
 have:=h.below.size;rw[e2];simp;omega
theorem zhy (x:Int):∀ (l:List Int),I (insU x l)<=I l+1
 | []=>by simp[insU]
 | y::l=>by
  have:=zhy x l
  grind [insU]
theorem zcW:∀ (l:List Int),I (zf6 l)<=I l
 | []=>by decide
 | x::l=>by
  have:=zcW l
  grind [zhy,zf6]
def CutsO (L:iT) (w:ω) (e:Ending) (w':ω):Prop:=∃ b cap r,e=ρ (σ b (I (bG L.cL)) cap)/\eP w' b (bG L.cL).toArray r/\w.t<=b/\w.u w'/\I (bG L.cL)<=cap
theorem zd3 (a b:θ):bX (a++b)=bX a++bX b:=by simp[bX]
theorem zc6 (l:θ) (r:Int×Int):bX (l++[r])=bX l++if r.2<1114111 then[r.1,r.2+1] else[r.1]:=by simp[bX]
theorem cuts_any (L:iT) (bl:Nat) (w:ω) (hl:xD w bl L) (yp:0<I L.cL) (hr:∀ c∈L.cL,iF c) (hW:Wid w) (hG:jV<=w.t) (hn:I (fJ L.cL)<1000000):
 Γ 66 #[aF bl] w (CutsO L w):=by
 obtain⟨vc,vf,vr,Ql,h1,h2,h3,h4,h5⟩:=hl;have hlw:3<w.heap.size:=by unfold jV at hG;omega
 clear h4 h5 hG;go_in;go_upto_region 2 with (go_at_call 105;refine (clone_any ⟨3,0,none⟩ 6 6 (zfV cJ) _ zd rfl zd zd (λj u hu=>by rw[zhd];exact hW j u hu) hlw).mono ?_;rintro e w1 ⟨v,rfl,qc,Az,Hk⟩;obtain⟨g1,cap1,rfl⟩:=cH qc)
 have Yo:CuSt w bl L cJ g1 cap1 w1:=⟨qc,Az g1 rfl,Hk⟩;have K2:w1.h bl #[vc,vf,vr] 159/\w1.r 240 1 vc (I L.cL) Ql:=⟨(Hk.block bl (aA h1)).trans h1,aN h2 Hk⟩;have c1:=zq 0 K2.1;obtain⟨gc,Jc,rfl⟩:∃ g cap,vc=σ g (I L.cL) cap:=by
  grind [aY]
 have MX:(I L.cL:Int)<=9223372036854775807:=by
  have:I L.cL<=maxLen:=by rcases K2.2.2 with⟨_,h⟩|⟨_,_,_,_,_,_,h,h',_⟩<;>omega
  exact zzBs
 clear K2 qc Az Hk hlw;go_wp2_with fail;go_loopw [3,15] (λs3 s15 wr=>∃ (i g cap:Nat),s15=ι i/\i<=I L.cL/\s3=σ g (I (cJ++(L.cL.take i).flatMap bX)) cap/\CuSt w bl L (cJ++(L.cL.take i).flatMap bX) g cap wr) (λ_ s15 _=>I L.cL-(ϑ s15).toNat)
 case atStart=>exact⟨0,g1,cap1,rfl,zo,rfl,by assumption⟩
 case round=>
  obtain⟨i,g,cap,rfl,hi,rfl,hS⟩:=hrel;by_cases Hf:i<I L.cL
  . have hz:=zt i (I L.cL)
    obtain⟨c,hc⟩:=zG L.cL i Hf;obtain⟨cv,PU,ym⟩:=h3 i c hc;have EY:wr.r 240 1 (σ gc (I L.cL) Jc) (I L.cL) Ql:=aN h2 ⟨hS.below.os,hS.below.tape,hS.below.output,hS.below.size,hS.below.block⟩;have Vn:wr.v gc i cv:=aJ EY _ _ PU;have MZ:=hr c (zM hc);have Kd:L.cL.take (i+1)=L.cL.take i++[c]:=by rw[List.take_add_one,hc];rfl
    have Xp:=mF i;have EK:I (fJ L.cL)=I (cJ++(L.cL.take i).flatMap bX)+I (bX c)+I ((L.cL.drop (i+1)).flatMap bX):=by
     have e:L.cL=L.cL.take i++[c]++L.cL.drop (i+1):=by rw[<-Kd,List.take_append_drop]
     conv=>lhs;rw[e]
     simp[fJ,Nat.add_assoc]
    have tz:=aY ym;clear EY PU hc
    rcases tz with⟨rfl,Yn⟩|⟨gl,capl,rfl,hcapl,xh⟩
    . have kx:c=[]:=List.eq_nil_of_length_eq_zero Yn
      subst kx;go_wp2_with fail;refine zzAZ ?_;go_wp2_with fail;go_roundw
      case rel=>
       refine⟨i+1,g,cap,by go_num,zo,?_,?_⟩
       . rw[Kd];simp[bX]
       rw[Kd];simpa[bX] using hS
      grind [RowKit.intOf]
    have ZZ:(I c:Int)<=9223372036854775807:=by
     have:I c<=maxLen:=by rcases ym.2 with⟨_,h⟩|⟨_,_,_,_,_,_,h,h',_⟩<;>omega
     exact zzBs
    go_wp2_with fail;go_loopw [3,21] (λs3 p6 wr2=>∃ (j g cap:Nat),p6=ι j/\j<=I c/\s3=σ g (I (cJ++(L.cL.take i).flatMap bX++bX (c.take j))) cap/\CuSt w bl L (cJ++(L.cL.take i).flatMap bX++bX (c.take j)) g cap wr2) (λ_ p6 _=>I c-(ϑ p6).toNat)
    case atStart=>exact⟨0,g,cap,rfl,zo,by simp[bX],by simpa[bX] using hS⟩
    case round=>
     obtain⟨j,g2,Q6,rfl,hj,rfl,Q7⟩:=hrel;by_cases nh:j<I c
     . have RU:=zt j (I c)
       obtain⟨x,hx⟩:=zG c j nh;obtain⟨f0,f1⟩:=zbT c j x hx;have Qh:gV wr (σ gl (I c) capl) c:=aN ym ⟨Q7.below.os,Q7.below.tape,Q7.below.output,Q7.below.size,Q7.below.block⟩;have q0:=aJ Qh _ _ f0;have q1:=aJ Qh _ _ f1;have Fa:=MZ x (zM hx);obtain⟨x1,x2⟩:=x;simp only at q0 q1 Fa;have htj:bX (c.take (j+1))=bX (c.take j)++if x2<1114111 then[x1,x2+1] else[x1]:=by
        rw[List.take_add_one,hx];exact zc6 _ _
       have x6:I (cJ++(L.cL.take i).flatMap bX++bX (c.take j))+2<=1000000000:=by
        have h1:=EK;have h2:=hn;have h3:I (bX (c.take j))<=I (bX c):=by
         have e2:=zd3 (c.take j) (c.drop j);rw[List.take_append_drop] at e2;rw[e2,zLn];omega
        rw[zLn];omega
       have NS:=mF j;generalize hY:cJ++(L.cL.take i).flatMap bX++bX (c.take j)=Y at*;clear f0 f1 Qh hx;go_upto_region 8 with fail
       have Xh:=Q7.alloc (Ω #[ξ x1,ξ x2] 251);have yv:(κ wr (Ω #[ξ x1,ξ x2] 251)).h wr.t #[ξ x1,ξ x2] 251:=by rw[aV,zP rfl]
       have G9:β (Value.slice (some g2.a) (I Y) Q6)≠some wr.heap.size:=λe=>by
        have h:=(Q7.row.lt g2 rfl).2;have e2:g2=wr.t:=by simpa[Value.ownBlock] using e
        omega
       obtain⟨n7,OP⟩:=zE (wr.heap.size);rw[<-OP] at yv G9 ⊢;clear OP;generalize wr.alloc (Ω #[ξ x1,ξ x2] 251)=w7 at*;have r0:=zq 0 yv;clear q0 q1
       go_upto_region 9 with (at_builtin;refine dM rfl zea rfl (by exact Xh.row.alloc _) [ξ x1] zo ?_;intro v8 w8 Vg VL UN;obtain⟨k0,k1,k2⟩:=mJ (off:=1) yv G9 VL;simp only[zLa,zLc,zLb] at k0;obtain⟨g8,cap8,hv8,Zs⟩:=Xh.push x1 _ v8 Vg VL UN;rw[hv8])
       have hY8:I (Y++[x1])=I Y+1:=zs
       have HR8:=zh (show w8.r 21 1 (σ g8 (I Y+1) cap8) (I Y+1) (zfV (Y++[x1])) by have h:=Zs.row;rw[hY8] at h;exact h);clear hv8 r0;by_cases dt:x2<1114111
       . have e3:IntKind.i32.wrap (x2+1)=x2+1:=IntWalk.i32_in _ zo
         go_upto_region 11 with (at_builtin;refine dM rfl zea rfl (by exact HR8.o.alloc _) [ξ (x2+1)] zo ?_;intro v9 w9 Qc YB Yz;rw[<-hY8] at Qc;obtain⟨g9,YG,AM,Pb⟩:=Zs.push (x2+1) _ v9 Qc YB Yz;rw[AM])
         clear Qc YB Yz AM k0 k1 k2 e3;go_wp2_with fail;go_roundw
         case rel=>
          have Hg:Y++[x1]++[x2+1]=cJ++(L.cL.take i).flatMap bX++bX (c.take (j+1)):=by
           rw[htj,zP dt,<-hY];simp only[List.append_assoc];rfl
          exact⟨j+1,g9,YG,by go_num,zo,by rw[<-Hg];simp,by rw[<-Hg];exact Pb⟩
         case measure=>exact zY
       go_wp2_with fail
       go_roundw
       case rel=>
        have Hg:Y++[x1]=cJ++(L.cL.take i).flatMap bX++bX (c.take (j+1)):=by
         rw[htj,zN dt,<-hY];simp only[List.append_assoc]
        exact⟨j+1,g8,cap8,by go_num,zo,by simp_all,by rw[<-Hg];exact Zs⟩
       case measure=>exact zY
     have RU:=zn j (I c)
     have xi:j=I c:=zo
     subst xi;go_wp2_with fail;go_roundw
     case rel=>
      have Hg:cJ++(L.cL.take i).flatMap bX++bX (c.take (I c))=cJ++(L.cL.take (i+1)).flatMap bX:=by
       rw[Kd,List.take_length];simp
      exact⟨i+1,g2,Q6,by go_num,zo,by simp_all,by rw[<-Hg];exact Q7⟩
     case measure=>exact zY
  have hz:=zn i (I L.cL)
  have YP:i=I L.cL:=zo
  subst YP;have YH:cJ++(L.cL.take (I L.cL)).flatMap bX=fJ L.cL:=by rw[List.take_length];rfl
  have Hb:=hS.row;rw[YH] at Hb ⊢;obtain⟨r,hR,V8,Xi⟩:=rowAt_of Hb;clear Hb;go_wp2_with fail;have Hv:(fJ L.cL).toArray.size=I (fJ L.cL):=zs
  have h6:6<=I (fJ L.cL):=by simp[fJ,cJ]
  refine (sort_any g (I (fJ L.cL)) cap r (fJ L.cL).toArray wr hR Hv zo hn).mono ?_;rintro e w2 ⟨rfl,d',AA,DJ,Xv,yi,qk⟩;have H2:=Ψ AA DJ Xv (zAi yi qk);clear AA DJ Xv yi qk Hv;go_wp2_with fail;refine (zgo g (I (fJ L.cL)) cap r d' w2 H2.o.2.2.2.1 H2.o.2.2.1 zo Xi hn).mono ?_;rintro e w3 ⟨d3,r3,rfl,Pe,An,ye⟩;have H3:=Λ Pe An ye;clear Pe An ye;go_wp2;go_ret
  obtain⟨AA,DJ,Xv,yi,qk⟩:=H2.o;obtain⟨Pe,An,ye⟩:=H3.o;have hp:d'.toList.Perm (fJ L.cL):=by
   have h:=AA.2.2;rw[Array.extract_eq_self_of_le zo,Array.extract_eq_self_of_le zs] at h;simpa using h
  have hs:d'.toList.Pairwise (· <= ·):=by
   rw[List.pairwise_iff_getElem];intro a b ha hb KJ;have h:=DJ a b rC KJ zzCj;rw[getElem!_pos d' a zo,getElem!_pos d' b zo] at h;simp only[Sort.ltInt,decide_eq_false_iff_not,Int.not_lt] at h;simpa using h
  have e3:d3.toList=bG L.cL:=by rw[Pe,comp_sort hp hs];rfl
  have e4:d3=(bG L.cL).toArray:=by rw[<-e3]
  subst e4;refine⟨g,cap,r3,zs,An,hS.new,?_,zT (zcW _) Xi⟩;exact iK (v:=σ g 0 0) (iK (v:=σ g 0 0) hS.below qk hS.below.size (λg2 h=>by cases h;exact hS.new)) ye (zT hS.below.size qk.size) (λg2 h=>by cases h;exact hS.new)
theorem add_add (s:aZ) (n:Nat):(s.add n).add n=s.add n:=by
 grind [aZ.add]
theorem vQ (c:Int):∀ (l:List θ) (k:θ) (n:Nat) (s:aZ),dQ c (l++[k]) n s=if fZ k c then (dQ c l n s).add (n+I l) else dQ c l n s
 | [],k,n,s=>by rfl
 | a::l,k,n,s=>by
  show dQ c (l++[k]) (n+1) _=_;rw[vQ c l k (n+1)]
  grind [dQ]
theorem zaf (c:Int):∀ (l:List θ) (n:Nat) (s:aZ),s.Ok->n+I l<=128->(dQ c l n s).Ok
 | [],n,s,h,_=>h
 | a::l,n,s,h,hn=>by
  rw[List.length_cons] at hn;refine zaf c l (n+1) _ ?_ zo
  grind [zhc]
theorem zft (k:θ) (r:Int×Int) (c:Int):fZ (k++[r]) c=(fZ k c||(cW c&&(decide (r.1<=c)&&decide (c<=r.2)))):=by
 grind [fZ]
theorem valid_eq (c:Int) (w:ω):Γ 108 #[ξ c] w λe w'=>e=ρ (φ (cW c))/\w'=w:=by
 have h:=Tryz.utf8_ValidRune c w;have e:Lib.validRune c=cW c:=by
  unfold Lib.validRune cW;rw[Bool.eq_iff_iff];simp
 rwa [e] at h
structure MtSt (w:ω) (s:aZ) (wr:ω):Prop where
 aQ:kS wr w.t s
 ok:s.Ok
 below:w.u wr
theorem MtSt.alloc (h:MtSt w s wr) (o:Obj):MtSt w s (κ wr o):=
 ⟨by unfold kS;rw[aV,zN (by have:=aA h.aQ;omega)];exact h.aQ,h.ok,h.below.alloc h.below.size o⟩
theorem MtSt.add (h:MtSt w s wr) (hn:n<128) (h1:kS w2 w.t (s.add n)) (h2:wr.g w2 w.t):MtSt w (s.add n) w2:=
 ⟨h1,zhc h.ok hn,iK (v:=σ w.t 0 0) h.below h2 h.below.size (λg hg=>by cases hg;simp)⟩
theorem zgF (L:iT) (bl:Nat) (c:Int) (w:ω) (hl:xD w bl L) (yp:0<I L.cL) (hn:I L.cL<=128):
 Γ 67 #[aF bl,ξ c] w λe w'=>e=ρ (qV (bP L.cL c))/\(bP L.cL c).Ok/\w.u w':=by
 obtain⟨vc,vf,vr,Ql,h1,h2,h3,h4,h5⟩:=hl;have HC:=Λ h1 h2 h3;have Hh:MtSt w (dQ c (L.cL.take 0) 0 (0,0)) (κ w (Ω #[υ 0,υ 0] 176)):=
  ⟨by unfold kS;rw[aV,zP rfl];rfl,show aZ.Ok (0,0) from⟨zd,zd⟩,Ξ w _⟩
 have Hl:=zh Hh;have c1:=zq 0 h1;have l1:=aA h1;obtain⟨gc,Jc,rfl⟩:∃ g cap,vc=σ g (I L.cL) cap:=by
  grind [aY]
 clear h1 h2 h3 h4 h5 Hh;go_in;go_wp2_with fail;obtain⟨b4,qu⟩:=zE (w.heap.size);rw[<-qu];have yg:=zh qu;clear qu;go_loopw [14] (λs14 wr=>∃ (i:Nat),s14=ι i/\i<=I L.cL/\MtSt w (dQ c (L.cL.take i) 0 (0,0)) wr) (λs14 _=>I L.cL-(ϑ s14).toNat)
 case atStart=>exact⟨0,rfl,zo,Hl.o⟩
 case round=>
  obtain⟨i,rfl,hi,hS⟩:=hrel;have HS:=zh hS;clear hS;by_cases Hf:i<I L.cL
  . have hz:=zt i (I L.cL)
    obtain⟨k,hk⟩:=zG L.cL i Hf;obtain⟨cv,PU,ym⟩:=HC.o.2.2 i k hk;have hB:=HS.o.below;have EY:wr.r 240 1 (σ gc (I L.cL) Jc) (I L.cL) Ql:=aN HC.o.2.1 ⟨hB.os,hB.tape,hB.output,hB.size,hB.block⟩;have Vn:wr.v gc i cv:=aJ EY _ _ PU;have Kd:dQ c (L.cL.take (i+1)) 0 (0,0)=if fZ k c then (dQ c (L.cL.take i) 0 (0,0)).add i else dQ c (L.cL.take i) 0 (0,0):=by
     rw[List.take_add_one,hk,show (some k).toList=[k] from rfl,vQ,List.length_take,Nat.zero_add,Nat.min_eq_left zo]
    have Xp:=mF i;have V0:=zh Kd;have YY:=zh ym;have tz:=aY ym;have hokS:=HS.o.ok;clear ym Kd EY PU hk hB hokS;generalize dQ c (L.cL.take i) 0 (0,0)=S at*
    rcases tz with⟨rfl,Yn⟩|⟨gl,capl,rfl,hcapl,xh⟩
    . have kx:k=[]:=List.eq_nil_of_length_eq_zero Yn
      subst kx;go_wp2_with fail;refine zzAZ ?_;go_wp2_with fail;go_roundw
      case rel=>exact⟨i+1,by go_num,zo,by rw[V0.o];simpa[fZ] using HS.o⟩
      case measure=>exact zY
    have ZZ:(I k:Int)<=9223372036854775807:=by
     have:I k<=maxLen:=by rcases YY.o.2 with⟨_,h⟩|⟨_,_,_,_,_,_,h,h',_⟩<;>omega
     exact zzBs
    go_wp2_with fail;go_loopw [21] (λp6 wr2=>∃ (j:Nat),p6=ι j/\j<=I k/\MtSt w (if fZ (k.take j) c then S.add i else S) wr2) (λp6 _=>I k-(ϑ p6).toNat)
    case atStart=>exact⟨0,rfl,zo,by simpa[fZ] using HS.o⟩
    case round=>
     obtain⟨j,rfl,hj,Q7⟩:=hrel;have QS:=zh Q7;clear Q7;by_cases nh:j<I k
     . have RU:=zt j (I k)
       obtain⟨x,hx⟩:=zG k j nh;obtain⟨f0,f1⟩:=zbT k j x hx;have hB:=QS.o.below;have Qh:gV wr (σ gl (I k) capl) k:=aN YY.o ⟨hB.os,hB.tape,hB.output,hB.size,hB.block⟩;have q0:=aJ Qh _ _ f0;have q1:=aJ Qh _ _ f1;have XP:fZ (k.take (j+1)) c=(fZ (k.take j) c||(cW c&&(decide (x.1<=c)&&decide (c<=x.2)))):=by
        rw[List.take_add_one,hx];exact zft _ _ _
       have NS:=mF j;obtain⟨x1,x2⟩:=x;simp only at q0 q1 XP;have AT:=zh XP;clear XP f0 f1 Qh hx hB;go_upto_region 7 with fail
       have Xh:=QS.o.alloc (Ω #[ξ x1,ξ x2] 251);have yv:(κ wr (Ω #[ξ x1,ξ x2] 251)).h wr.t #[ξ x1,ξ x2] 251:=by rw[aV,zP rfl]
       obtain⟨n7,OP⟩:=zE (wr.heap.size);rw[<-OP] at yv ⊢;clear OP;generalize wr.alloc (Ω #[ξ x1,ξ x2] 251)=w7 at*;have Q5:=zh Xh;have r0:=zq 0 yv;have r1:=zq 1 yv;have l7:=aA yv;clear Xh yv q0 q1;have Jq:=λw=>valid_eq c w;by_cases hh:x1<=c/\c<=x2/\cW c=true
       . have GN:=hh.1
         have CQ:=hh.2.1;have HV:=zh hh.2.2;have P3:(if fZ (k.take (j+1)) c then S.add i else S)=(if fZ (k.take j) c then S.add i else S).add i:=by
          rw[AT.o,HV.o];simp only[GN,CQ,decide_true,Bool.and_true,Bool.or_true,if_true];split
          . rw[add_add]
          rfl
         have HM:=zh P3;clear hh P3;go_wp2_with (first|(go_at_call 108;refine (Jq _).mono ?_;rintro e w8 ⟨rfl,rfl⟩;rw[HV.o])|(go_at_call 68;refine (zbw b4 i _ _ (by rw[yg.o];exact Q5.o.aQ) Q5.o.ok zo).mono ?_;rintro e w9 ⟨rfl,AH,SC⟩));go_roundw
         case rel=>
          refine⟨j+1,by go_num,zo,?_⟩;rw[HM.o];rw[yg.o] at AH SC;exact Q5.o.add zo AH SC
         case measure=>exact zY
       have P3:(if fZ (k.take (j+1)) c then S.add i else S)=if fZ (k.take j) c then S.add i else S:=by
        have e:(cW c&&(decide (x1<=c)&&decide (c<=x2)))=false:=by
         rw[Bool.eq_false_iff];intro h;simp only[Bool.and_eq_true,decide_eq_true_eq] at h;exact hh ⟨h.2.1,h.2.2,h.1⟩
        rw[AT.o,e,Bool.or_false]
       have HM:=zh P3;clear P3
       rcases Int.lt_or_le c x1 with d|d
       . clear hh
         go_wp2_with fail;exact zzBT
       rcases Int.lt_or_le x2 c with d2|d2
       . clear hh
         go_wp2_with fail;exact zzBT
       have hv:cW c=false:=by
        rw[Bool.eq_false_iff];exact λh=>hh ⟨d,d2,h⟩
       have HV:=zh hv;clear hv hh;go_wp2_with (first|(go_at_call 108;refine (Jq _).mono ?_;rintro e w8 ⟨rfl,rfl⟩;rw[HV.o])|fail);exact zzBT
     have RU:=zn j (I k)
     have xi:j=I k:=zo
     subst xi;go_wp2;go_roundw
     case rel=>exact⟨i+1,by go_num,zo,by rw[V0.o];simpa[List.take_length] using QS.o⟩
     case measure=>exact zY
  have hz:=zn i (I L.cL)
  have YP:i=I L.cL:=zo
  subst YP;have hS:=HS.o;rw[List.take_length] at hS;change MtSt w (bP L.cL c) wr at hS;have FO:=zh hS;obtain⟨s0,s1⟩:=hS.aQ.cells;have f0:=zF 0 hS.aQ;have f1:=zF 1 hS.aQ;have l4:=aA hS.aQ;rw[<-yg.o] at s0 s1 f0 f1 l4;clear hS;go_wp2;have cd:kS (ς (ς wr b4.a (υ (bP L.cL c).1)) (b4.p 1) (υ (bP L.cL c).2)) b4 (bP L.cL c):=by
   unfold kS;rw[aB _ b4 1 _ _ _ _ (aB wr b4 0 _ _ _ _ (by rw[yg.o];exact FO.o.aQ))];rfl
  have qh:w.u (ς (ς wr b4.a (υ (bP L.cL c).1)) (b4.p 1) (υ (bP L.cL c).2)):=
   (FO.o.below.setCell (p:=(b4.a:Addr)) (by rw[yg.o];simp) _).setCell (p:=((b4.p 1):Addr)) (by rw[yg.o];simp) _
  generalize (ς wr b4.a (υ (bP L.cL c).1)).setCell (b4.p 1) (υ (bP L.cL c).2)=w9 at*;obtain⟨y0,y1⟩:=cd.cells;simp[bodyPost,results,results67,go_sem,y0,y1];exact⟨rfl,FO.o.ok,qh⟩
abbrev walkV (sa ta fa ra wa:Nat):Value:=.func (Fn.func 109) #[] #[aF sa,aF ta,aF fa,aF ra,aF wa]
def dP (l:List Int):ζ:=l.map (Value.int .i64)
structure BAt (B:Nat) (w:ω) (sa ta fa ra wa gs gf bt n:Nat) (b:rF):Prop where
 hs:w.h sa #[σ gs n n] 24
 ht:w.h ta #[aF bt] 93
 hf:w.h fa #[σ gf n n] 24
 hr:w.h ra #[φ b.round] 4
 hw:w.h wa #[walkV sa ta fa ra wa] 185
 rs:w.r 3 1 (σ gs n n) n (dP b.state)
 rf:w.r 3 1 (σ gf n n) n (dP b.far)
 n1:gs≠sa/\gs≠ta/\gs≠fa/\gs≠ra/\gs≠wa/\gs≠gf
 n2:gf≠sa/\gf≠ta/\gf≠fa/\gf≠ra/\gf≠wa
 n3:ra≠sa/\ra≠ta/\ra≠fa/\ra≠wa
 lb:B<=gs/\B<=gf/\B<=ra
section
variable {B:Nat} {w:ω} {sa ta fa ra wa gs gf bt n:Nat} {b:rF}
theorem BAt.setState (h:BAt B w sa ta fa ra wa gs gf bt n b) (i:Nat) (x:Int):BAt B (ς w (gs.p i) (ι x)) sa ta fa ra wa gs gf bt n {b with state:=b.state.set i x}:=by
 obtain⟨a1,a2,a3,a4,a5,a6⟩:=h.n1;refine⟨(aD _ _ _ _ (Ne.symm a1)).trans h.hs,(aD _ _ _ _ (Ne.symm a2)).trans h.ht,(aD _ _ _ _ (Ne.symm a3)).trans h.hf,(aD _ _ _ _ (Ne.symm a4)).trans h.hr,(aD _ _ _ _ (Ne.symm a5)).trans h.hw,?_,jT _ h.rf (by grind [Value.ownBlock]),h.n1,h.n2,h.n3,h.lb⟩;have:=(h.rs.stored i (ι x)).1
 grind [dP,List.map_set]
theorem BAt.setFar (h:BAt B w sa ta fa ra wa gs gf bt n b) (i:Nat) (x:Int):BAt B (ς w (gf.p i) (ι x)) sa ta fa ra wa gs gf bt n {b with far:=b.far.set i x}:=by
 obtain⟨a1,a2,a3,a4,a5⟩:=h.n2;have:=h.n1.2.2.2.2.2;refine⟨(aD _ _ _ _ (Ne.symm a1)).trans h.hs,(aD _ _ _ _ (Ne.symm a2)).trans h.ht,(aD _ _ _ _ (Ne.symm a3)).trans h.hf,(aD _ _ _ _ (Ne.symm a4)).trans h.hr,(aD _ _ _ _ (Ne.symm a5)).trans h.hw,jT _ h.rs (by grind [Value.ownBlock]),?_,h.n1,h.n2,h.n3,h.lb⟩;have:=(h.rf.stored i (ι x)).1
 grind [dP,List.map_set]
theorem BAt.setRound (h:BAt B w sa ta fa ra wa gs gf bt n b) (x:Bool):BAt B (ς w ra.a (φ x)) sa ta fa ra wa gs gf bt n {b with round:=x}:=by
 obtain⟨a1,a2,a3,a4⟩:=h.n3;refine⟨(aD _ _ _ _ (Ne.symm a1)).trans h.hs,(aD _ _ _ _ (Ne.symm a2)).trans h.ht,(aD _ _ _ _ (Ne.symm a3)).trans h.hf,?_,(aD _ _ _ _ (Ne.symm a4)).trans h.hw,jT _ h.rs (by simpa[Value.ownBlock] using h.n1.2.2.2.1),jT _ h.rf (by simpa[Value.ownBlock] using h.n2.2.2.2.1),h.n1,h.n2,h.n3,h.lb⟩;rw[aB w ra 0 _ _ _ _ h.hr];rfl
theorem BAt.drew (h:BAt B w sa ta fa ra wa gs gf bt n b):BAt B w.drew sa ta fa ra wa gs gf bt n b:=⟨h.hs,h.ht,h.hf,h.hr,h.hw,h.rs,h.rf,h.n1,h.n2,h.n3,h.lb⟩
end
theorem zi7 (c:Int):Lib.runeLen c=iH c:=by
 grind [Lib.runeLen,iH]
theorem zcT (c:Int): -1<=iH c/\iH c<=4:=by
 grind [iH]
def iS (b b2:rF):Prop:=I b2.state=I b.state/\I b2.far=I b.far/\∀ j,χ b.far j 0<=χ b2.far j 0
theorem iS.refl (b:rF):iS b b:=⟨rfl,rfl,λ_=>Int.le_refl _⟩
theorem iS.trans {a b c:rF} (h:iS a b) (k:iS b c):iS a c:=⟨k.1.trans h.1,k.2.1.trans h.2.1,λj=>Int.le_trans (h.2.2 j) (k.2.2 j)⟩
theorem iS.state (b:rF) (i:Nat) (x:Int):iS b {b with state:=b.state.set i x}:=⟨zs,rfl,λ_=>Int.le_refl _⟩
theorem iS.round (b:rF) (x:Bool):iS b {b with round:=x}:=⟨rfl,rfl,λ_=>Int.le_refl _⟩
theorem iS.far (b:rF) (i:Nat) (x:Int):iS b {b with far:=b.far.set i (max (χ b.far i 0) x)}:=by
 refine⟨rfl,zs,λj=> ?_⟩
 grind
theorem pY :∀ (f:Nat),(∀ i b b2,sM T f i b=some b2->iS b b2)/\(∀ i k r b b2,gX T f i k r b=some b2->iS b b2):=by
 intro f
 induction f with
 | zero=>grind [sM,gX]
 | succ f ih=>
  refine⟨λi b b2 h=> ?_,λi k r b b2 h=> ?_⟩
  . rw[sM] at h
    split at h
    . cases h
    rename_i b3 e
    cases h;exact (iS.state b i 1).trans ((ih.2 _ _ _ _ _ e).trans (iS.state b3 i 2))
  cases r with
  | nil=>grind [gX,iS.refl]
  | cons u r=>
   rw[gX] at h;split at h
   . grind
   simp only at h
   have h0:=iS.far b i (iH (χ T.cU k 0)-1);split at h
   . exact h0.trans (ih.2 _ _ _ _ _ h)
   split at h
   . exact h0.trans ((iS.round _ true).trans (ih.2 _ _ _ _ _ h))
   split at h
   . cases h
   rename_i b3 e
   have h1:iS {b with far:=b.far.set i (max (χ b.far i 0) (iH (χ T.cU k 0)-1))} b3:=by
    split at e
    . grind
    cases e;exact iS.refl _
   exact h0.trans (h1.trans ((iS.far b3 i _).trans (ih.2 _ _ _ _ _ h)))
def WalkC (T:dX) (R f:Nat):Prop:=∀ (i:Nat) (b b2:rF) (B:Nat) (w:ω) (sa ta fa ra wa gs gf bt bc cc br cr bg cg:Nat),sM T f i b=some b2->BAt B w sa ta fa ra wa gs gf bt (I T.gO) b->gM B w bt T bc cc br cr bg cg->i<I T.gO->
 I b.state=I T.gO->I b.far=I T.gO->(∀ j,0<=χ b.far j 0)->(∀ j,χ b2.far j 0<=1000000)->
 Γ 109 #[ι i,aF sa,aF ta,aF fa,aF ra,aF wa] w λe w'=>e=ρ (ϕ #[])/\BAt B w' sa ta fa ra wa gs gf bt (I T.gO) b2/\Below B w w'
structure WalkSt (T:dX) (F i:Nat) (b3:rF) (B:Nat) (w:ω) (sa ta fa ra wa gs gf bt bc cc br cr bg cg:Nat) (k:Nat) (b:rF) (wr:ω):Prop where
 aQ:BAt B wr sa ta fa ra wa gs gf bt (I T.gO) b
 tab:gM B wr bt T bc cc br cr bg cg
 rest:∃ f,f<=F/\gX T f i k ((χ T.gO i []).drop k) b=some b3
 ls:I b.state=I T.gO
 lf:I b.far=I T.gO
 nn:∀ j,0<=χ b.far j 0
 below:Below B w wr
theorem gP {j:Nat} (h:j<I l):(dP l)[j]?=some (ι (χ l j 0)):=by
 grind [dP]
theorem walk_any (T:dX) (R:Nat) (hT:yV T R) (f:Nat):WalkC T R f:=by
 induction f using Nat.strongRecOn with
 | ind f ih=>
 intro i b b2 B w sa ta fa ra wa gs gf bt bc cc br cr bg cg hw hB Q8 hi hls Cl K7 Hg;cases f with
 | zero=>rw[sM] at hw;cases hw
 | succ f=>
 rw[sM] at hw;cases hx:gX T f i 0 (χ T.gO i []) {b with state:=b.state.set i 1} with
 | none=>rw[hx] at hw;cases hw
 | some b3=>
 rw[hx] at hw;cases hw;have IH:=zh ih;have HT:=zh hT;have Bd:=hB.setState i 1;have:=Q8.size.2;obtain⟨row,Hb⟩:=zG T.gO i hi;have Ko:χ T.gO i []=row:=by rw[zLf,Hb];rfl
 have YC:row∈T.gO:=zM Hb;have Qh:=hT.rows row YC;have EY:=hT.cells row YC;have s0:=zq 0 hB.hs;have t0:=zq 0 hB.ht;have cgs:=aJ hB.rs i _ (gP zo);have fgs:=hB.rs.frozenAt i;have:=zt i (I T.gO)
 obtain⟨hn11,hn12,hn13,hn14,ph,hn16⟩:=hB.n1;have A8:=hB.lb;have vy:Below B w (ς w (gs.p i) (ι 1)):=(zBr B w).setCell (p:=((gs.p i):Addr)) A8.1 _;have Hh:WalkSt T f i b3 B w sa ta fa ra wa gs gf bt bc cc br cr bg cg 0 {b with state:=b.state.set i 1} (ς w (gs.p i) (ι 1)):=
  ⟨Bd,Q8.below vy,⟨f,bR,zg⟩,zg,Cl,K7,vy⟩
 have Hl:=zh Hh;have Q3:=zh Hg;have Hw:=Ψ Hb Ko Qh EY;have t1:=zq 0 Bd.ht;have Er:=Q8.below vy;have g2:=Er.c2;obtain⟨rb,rcap,q1',q2,q3⟩:=Q8.gO i row Hb;have q1:=(aG vy (bg.p i) Q8.ltg).trans q1';have Vz:=Θ q2 q3;clear Hh Hg Hb Ko YC Qh EY hB Bd Q8 hx hls Cl K7 vy ih hT Er q3 q1';have:I T.cU<1000000:=Hl.o.tab.size.1
 go_in;go_upto_region 1 with fail
 generalize w.setCell (gs.p i) (ι 1)=w1 at*;go_wp2_with fail;have DG:I row<=I T.cU/\I T.cU<=I row:=by rw[Hw.o.2.2.1];exact⟨bR,bR⟩
 obtain⟨qc,qt⟩:=DG;clear s0 t0 t1 cgs fgs g2 q1;go_loopw [21] (λp6 wr=>∃ (k:Nat) (bk:rF),p6=ι k/\k<=I row/\WalkSt T f i b3 B w sa ta fa ra wa gs gf bt bc cc br cr bg cg k bk wr) (λp6 _=>I row-(ϑ p6).toNat)
 case atStart=>exact⟨0,_,rfl,zo,Hl.o⟩
 case round=>
  obtain⟨k,bk,rfl,hk,hS⟩:=hrel;have HS:=zh hS;clear hS Hl;by_cases Hf:k<I row
  . have hz:=zt k (I row)
    obtain⟨u,hu⟩:=zG row k Hf;have:=Hw.o.2.2.2 u (zM hu);have ck:wr.i rb k u:=(aG HS.o.below (rb.p k) q2).trans (Vz.o.2 k u hu);obtain⟨f',EB,Ha⟩:=HS.o.rest;have Yh:(χ T.gO i []).drop k=u::row.drop (k+1):=by
     rw[Hw.o.2.1,List.drop_eq_getElem_cons Hf];congr 1;rw[zLe Hf] at hu;exact zO hu
    rw[Yh] at Ha;have:=mF k;cases f' with
    | zero=>rw[gX] at Ha;cases Ha
    | succ f'=>
    rw[gX] at Ha;clear Yh hu Hf;have tX:(χ T.gO i []).drop (k+1)=row.drop (k+1):=by rw[Hw.o.2.1]
    have BQ:=zh tX;clear tX;by_cases XH:u<0
    . rw[zP XH] at Ha
      have xe:=zh Ha;clear Ha;go_wp2_with fail;go_roundw
      case rel=>exact⟨k+1,bk,by go_num,zo,HS.o.aQ,HS.o.tab,⟨f',zo,by rw[BQ.o];exact xe.o⟩,HS.o.ls,HS.o.lf,HS.o.nn,HS.o.below⟩
      case measure=>exact zY
    rw[zN XH] at Ha
    simp only at Ha;obtain⟨m,hm⟩:∃ m:Nat,u=(m:Int):=⟨u.toNat,zo⟩;subst hm;rw[Int.toNat_natCast] at Ha;have G1:m<I T.gO:=zo
    have:=zt m (I T.gO)
    obtain⟨cv,PU⟩:=zE (χ T.cU k 0);obtain⟨wk,Jr⟩:=zE (iH cv);rw[<-PU,<-Jr] at Ha;have hwr:=zcT cv;rw[<-Jr] at hwr;obtain⟨F1,mw⟩:=zE (max (χ bk.far i 0) (wk-1));rw[<-mw] at Ha;obtain⟨rcu,O7⟩:=HS.o.tab.cU;have cck:wr.v bc k (ξ cv):=by
     have h:=O7.cell k zg;rw[h,PU];congr 2;rw[getElem!_pos _ k zg,zLf,zLe zo];simp
    have g0:=HS.o.tab.c0;have t0:=zq 0 HS.o.aQ.ht;have f0:=zq 0 HS.o.aQ.hf;have:=zt k (I T.cU)
    have cfi:=aJ HS.o.aQ.rf i _ (gP (by rw[HS.o.lf];exact hi));have ffi:=HS.o.aQ.rf.frozenAt i;have hFb:=HS.o.nn i;have Zd:χ bk.far i 0<=1000000:=by
     have h1:=(pY (T:=T) (f'+1)).2 i k (((m:Int))::row.drop (k+1)) bk b3 (by rw[gX,zN XH];simp only[Int.toNat_natCast,<-PU,<-Jr,<-mw];omega);exact Int.le_trans (h1.2.2 i) (Q3.o i)
    obtain⟨F0,hF0⟩:=zE (χ bk.far i 0);rw[<-hF0] at cfi hFb Zd mw;have Ho:∀ w,Γ 110 #[ξ cv] w λe w'=>e=ρ (ι wk)/\w=w':=λw=>by
     have h:=Tryz.utf8_RuneLen cv w;rw[zi7,<-Jr] at h;exact h.mono λ_ _ h=>⟨h.1,h.2.symm⟩
    have XC:=zh Ho;have xe:=zh Ha;have R8:=zh mw;have:=lM (n:=wk-1);clear Ha mw hF0 Jr PU O7 Ho XH;go_upto_region 6 with (go_at_call 110;refine (XC.o _).mono ?_;rintro e w2 ⟨rfl,rfl⟩)
    go_cut [] from 36 to 45 (λwx=>BAt B wx sa ta fa ra wa gs gf bt (I T.gO) {bk with far:=bk.far.set i F1}/\Below B wr wx)
    case first=>
     refine zzAl ?_;refine bV (λw'=>w'.v fa 0 (σ gf (I T.gO) (I T.gO))/\w'.i gf i F0) 10 zr ⟨f0,cfi⟩ (λHc=> ?_);refine zzAC ?_;refine aE 8 Hc ?_;refine aE 9 Hc ?_;refine bY 10 (λK hK=> ?_);go_simp;refine hK.out _ _ (λh=>absurd rfl h) ?_;clear hK K Hc;refine zzAF ?_;refine zzAg ?_;go_wp2;go_meet
     case rel=>
      rw[<-R8.o];have h:=HS.o.aQ.drew.setFar i F1;exact⟨h,((zBr B wr).drew).setCell (p:=((gf.p i):Addr)) A8.2.1 _⟩
    case rest=>
     obtain⟨F5,QT⟩:=hcut;have MP:=HS.o.below.trans QT;have St:=HS.o.tab.below QT;have OA:=HS.o.ls;have Ow:I (bk.far.set i F1)=I T.gO:=by simpa using HS.o.lf
     have OR:∀ j,0<=χ (bk.far.set i F1) j 0:=λj=>by
      by_cases e:i=j
      . subst e
        rw[pZ (by rw[HS.o.lf];exact hi),R8.o];omega
      rw[pB e];exact HS.o.nn j
     obtain⟨b6,Ca⟩:∃ b6:rF,b6={bk with far:=bk.far.set i F1}:=⟨_,rfl⟩;rw[<-Ca] at F5;have Ha:(if 0<=χ T.rU m 0 then gX T f' i (k+1) (row.drop (k+1)) b6 else if χ b6.state m 0=1 then gX T f' i (k+1) (row.drop (k+1)) {b6 with round:=true} else
      match (if χ b6.state m 0=0 then sM T f' m b6 else some b6) with
      | none=>none
      | some b7=>gX T f' i (k+1) (row.drop (k+1)) {b7 with far:=b7.far.set i (max (χ b7.far i 0) (wk+χ b7.far m 0))})=some b3:=by rw[Ca];exact xe.o
     have OB:I b6.state=I T.gO:=by rw[Ca];exact OA
     have Ox:I b6.far=I T.gO:=by rw[Ca];exact Ow
     have OS:∀ j,0<=χ b6.far j 0:=λj=>by rw[Ca];exact OR j
     clear OA Ow OR;have Qs:=Ψ F5 St MP (zAi OB (zAi Ox OS));have hrx:∃ x,T.rU[m]?=some x/\χ T.rU m 0=x:=by
      have hl:m<I T.rU:=by rw[HT.o.rules];exact G1
      exact⟨T.rU[m],zLe hl,by rw[zLf,zLe hl];rfl⟩
     obtain⟨rx,je,jg⟩:=hrx;rw[jg] at Ha;have k0:=zq 0 F5.ht;have k1:=St.c1;have k2:=St.rU m rx je;have k3:=zq 0 F5.hs;have k4:=aJ F5.rs m _ (gP zo);have lk4:=(F5.rs.lt gs rfl).2;have:B<=wc.t:=zo
     have:(m:Int)<(I T.rU:Int):=by rw[HT.o.rules];omega
     clear F5 St MP OB Ox OS Ca je jg f0 cfi ffi t0 g0 cck ck QT;by_cases Cs:0<=rx
     . rw[zP Cs] at Ha
       have Ww:=zh Ha;clear Ha;go_wp2_with fail;go_roundw
       case rel=>exact⟨k+1,b6,by go_num,zo,Qs.o.1,Qs.o.2.1,⟨f',zo,by rw[BQ.o];assumption⟩,Qs.o.2.2.2.1,Qs.o.2.2.2.2.1,Qs.o.2.2.2.2.2,Qs.o.2.2.1⟩
       case measure=>exact zY
     rw[zN Cs] at Ha
     by_cases Yo:χ b6.state m 0=1
     . rw[zP Yo] at Ha
       rw[Yo] at k4;have Ww:=zh Ha;have cr:=zq 0 Qs.o.1.hr;have:=zF 0 Qs.o.1.hr;have h9:=Qs.o.1.setRound true;have XN:Below B wc (ς wc ra.a (φ true)):=(zBr B wc).setCell (p:=(ra.a:Addr)) A8.2.2 _;have QH:=Θ h9 XN;clear Ha Yo h9 XN;go_wp2_with fail;go_roundw
       case rel=>exact⟨k+1,_,by go_num,zo,QH.o.1,Qs.o.2.1.below QH.o.2,⟨f',zo,by rw[BQ.o];assumption⟩,Qs.o.2.2.2.1,Qs.o.2.2.2.2.1,Qs.o.2.2.2.2.2,Qs.o.2.2.1.trans QH.o.2⟩
       case measure=>exact zY
     rw[zN Yo] at Ha
     obtain⟨st,Hh⟩:=zE (χ b6.state m 0);rw[<-Hh] at Ha k4 Yo;by_cases Jo:st=0
     . rw[zP Jo] at Ha
       cases RL:sM T f' m b6 with
       | none=>rw[RL] at Ha;cases Ha
       | some b7=>
       rw[RL] at Ha;simp only at Ha;have Uh:=zh Ha;have oa:∀ j,χ b7.far j 0<=1000000:=λj=>by
        have h1:=(pY (T:=T) f').2 _ _ _ _ _ Ha;exact zzBH
       have Hj:=IH.o f' zo m b6 b7 B wc sa ta fa ra wa gs gf bt bc cc br cr bg cg RL Qs.o.1 Qs.o.2.1 G1 Qs.o.2.2.2.1 Qs.o.2.2.2.2.1 Qs.o.2.2.2.2.2 oa;have EN:=(pY (T:=T) f').1 _ _ _ RL;have IE:=zh EN;have qw:=zh Hj;have w0:=zq 0 Qs.o.1.hw;clear Hj RL oa Ha EN Hh Yo;subst Jo;go_upto_region 13 with fail
       refine qw.o.mono ?_;rintro e w8 ⟨rfl,Am,Yf⟩;have yc:=zh (show BAt B w8 sa ta fa ra wa gs gf bt (I T.gO) b7/\gM B w8 bt T bc cc br cr bg cg/\Below B w w8/\I b7.state=I T.gO/\I b7.far=I T.gO/\∀ j,0<=χ b7.far j 0 from
        ⟨Am,Qs.o.2.1.below Yf,Qs.o.2.2.1.trans Yf,IE.o.1.trans Qs.o.2.2.2.1,IE.o.2.1.trans Qs.o.2.2.2.2.1,λj=>Int.le_trans (Qs.o.2.2.2.2.2 j) (IE.o.2.2 j)⟩)
       clear Am Yf k0 k1 k2 k3 k4 lk4 w0;have xg:∀ j,χ b7.far j 0<=1000000:=λj=>by
        have h1:=(pY (T:=T) f').2 _ _ _ _ _ Uh.o;exact zzBH
       have G5:=yc.o.2.2.2.2.2 i;have G6:=yc.o.2.2.2.2.2 m;have Gm:=xg i;have Gn:=xg m;have x0:=zq 0 yc.o.1.hf;have x1:=aJ yc.o.1.rf i _ (gP (by rw[yc.o.2.2.2.2.1];exact hi));have x2:=aJ yc.o.1.rf m _ (gP (by rw[yc.o.2.2.2.2.1];exact G1));have fx:=yc.o.1.rf.frozenAt i;obtain⟨Fi,KE⟩:=zE (χ b7.far i 0);obtain⟨Fm,F7⟩:=zE (χ b7.far m 0);rw[<-KE] at x1 G5 Gm
       rw[<-F7] at x2 G6 Gn;have av:=lM (n:=wk+Fm);have Jt:=Θ KE F7;clear KE F7 xg;go_upto_region 13 with fail
       refine zzAl ?_;refine bV (λw'=>w'.v fa 0 (σ gf (I T.gO) (I T.gO))/\w'.i gf i Fi/\w'.i gf m Fm) 14 zr ⟨x0,x1,x2⟩ (λHc=> ?_);refine zzAC ?_;refine zzAt ?_;refine bY 14 (λK hK=> ?_);go_simp;refine hK.out _ _ (λh=>absurd rfl h) ?_;clear hK K Hc;refine zzAF ?_;refine zzAg ?_;have h9:=yc.o.1.drew.setFar i (max Fi (wk+Fm));have XN:Below B w8 (w8.drew.setCell (gf.p i) (ι (max Fi (wk+Fm)))):=((zBr B w8).drew).setCell (p:=((gf.p i):Addr)) A8.2.1 _
       have ewd:w8.drew.setCell (gf.p i) (ι (max Fi (wk+Fm)))=(ς w8 (gf.p i) (ι (max Fi (wk+Fm)))).drew:=rfl;rw[ewd] at h9 XN;clear ewd;generalize (ς w8 (gf.p i) (ι (max Fi (wk+Fm)))).drew=w9 at*;exact zzAa
     rw[zN Jo] at Ha
     simp only at Ha;obtain⟨b7,Gk⟩:∃ b7:rF,b7=b6:=⟨_,rfl⟩;rw[<-Gk] at Ha;have Uh:=zh Ha;have yc:=Qs;rw[<-Gk] at yc;clear Ha Hh Gk;have xg:∀ j,χ b7.far j 0<=1000000:=λj=>by
      have h1:=(pY (T:=T) f').2 _ _ _ _ _ Uh.o;exact zzBH
     have G5:=yc.o.2.2.2.2.2 i;have G6:=yc.o.2.2.2.2.2 m;have Gm:=xg i;have Gn:=xg m;have x0:=zq 0 yc.o.1.hf;have x1:=aJ yc.o.1.rf i _ (gP (by rw[yc.o.2.2.2.2.1];exact hi));have x2:=aJ yc.o.1.rf m _ (gP (by rw[yc.o.2.2.2.2.1];exact G1));have fx:=yc.o.1.rf.frozenAt i;obtain⟨Fi,KE⟩:=zE (χ b7.far i 0);obtain⟨Fm,F7⟩:=zE (χ b7.far m 0);rw[<-KE] at x1 G5 Gm
     rw[<-F7] at x2 G6 Gn;have av:=lM (n:=wk+Fm);have Jt:=Θ KE F7;clear KE F7 xg;go_upto_region 13 with fail
     refine zzAl ?_;refine bV (λw'=>w'.v fa 0 (σ gf (I T.gO) (I T.gO))/\w'.i gf i Fi/\w'.i gf m Fm) 14 zr ⟨x0,x1,x2⟩ (λHc=> ?_);refine zzAC ?_;refine zzAt ?_;refine bY 14 (λK hK=> ?_);go_simp;refine hK.out _ _ (λh=>absurd rfl h) ?_;clear hK K Hc;refine zzAF ?_;refine zzAg ?_;have h9:=yc.o.1.drew.setFar i (max Fi (wk+Fm));have XN:Below B wc (wc.drew.setCell (gf.p i) (ι (max Fi (wk+Fm)))):=((zBr B wc).drew).setCell (p:=((gf.p i):Addr)) A8.2.1 _
     have ewd:wc.drew.setCell (gf.p i) (ι (max Fi (wk+Fm)))=(ς wc (gf.p i) (ι (max Fi (wk+Fm)))).drew:=rfl;rw[ewd] at h9 XN;clear ewd;generalize (ς wc (gf.p i) (ι (max Fi (wk+Fm)))).drew=w9 at*;exact zzAa
  have hz:=zn k (I row)
  obtain⟨f',EB,Ha⟩:=HS.o.rest;rw[Hw.o.2.1,List.drop_eq_nil_of_le zo] at Ha;cases f' with
  | zero=>rw[gX] at Ha;cases Ha
  | succ f'=>
  rw[gX] at Ha;cases Ha;have s0:=zq 0 HS.o.aQ.hs;have cgs:=aJ HS.o.aQ.rs i _ (gP (by rw[HS.o.ls];exact hi));have fgs:=HS.o.aQ.rs.frozenAt i;have h9:=HS.o.aQ.setState i 2;have XN:Below B wr (ς wr (gs.p i) (ι 2)):=(zBr B wr).setCell (p:=((gs.p i):Addr)) A8.1 _;have QH:=Θ h9 XN;clear h9 XN;go_wp2;go_end0;exact⟨rfl,QH.o.1,HS.o.below.trans QH.o.2⟩
theorem zcs (n:Nat) (hn:n<=1000000) (w:ω):(Instr.makeSlice 24 (ι (n:Int)) (ι (n:Int))).run prog w=.ok (σ w.t n n) (κ w (Ω (dP (ψ n 0)).toArray 3)):=by
 obtain⟨i,h1,h2,h3,h4⟩:=info_parts (P:=prog) (e:=3) (z:=ι 0) (size:=1) (bytes:=8) zK;have:=run_makeSlice w 24 3 i (ι 0) underlying24 h1 h2 .i64 .i64 n n zo (Int.le_refl _) zg zg zo;have e:madeCells (Value.int .i64 0).cells n=(dP (ψ n 0)).toArray:=by
  apply Array.ext';have e1:(madeCells (Value.int .i64 0).cells n).toList=ψ n (ι 0):=toList_madeCells_one _ _;rw[e1];simp[dP]
 grind
theorem zc2 (w:ω) (g n:Nat) (hn:n<=1000000) (h:w.h g (dP (ψ n 0)).toArray 3):w.r 3 1 (σ g n n) n (dP (ψ n 0)):=
 ⟨by simp[dP],.inr ⟨g,n,_,rfl,rC,h,bR,by unfold maxLen;omega,by simp[dP],by grind [List.take_of_length_le,dP]⟩⟩
theorem gM.mono {B':Nat} {bt:Nat} {bc cc br cr bg cg:Nat} (h:gM B w bt T bc cc br cr bg cg) (hb:B<=B'):gM B' w bt T bc cc br cr bg cg:=
 ⟨zLd h.lt hb,h.c0,h.c1,h.c2,h.c3,h.cU,zLd h.ltc hb,h.rU,zLd h.ltr hb,λi row hr=>by
  obtain⟨b,c,h1,h2,h3⟩:=h.gO i row hr
  grind,zLd h.ltg hb,h.cap0,h.size,h.ty⟩
theorem pS {f:Nat}:∀ (n i:Nat) (Qe Hx:Int) (b b2:rF),eU T f n i Qe b=some (Hx,b2)->iS b b2
 | 0,i,Qe,Hx,b,b2,h=>by grind [eU,iS.refl]
 | n+1,i,Qe,Hx,b,b2,h=>by
  rw[eU] at h;split at h
  . exact pS n _ _ _ _ _ h
  split at h
  . cases h
  rename_i b3 e
  have h1:iS b b3:=by
   split at e
   . exact (pY f).1 _ _ _ e
   cases e;exact iS.refl _
  exact h1.trans (pS n _ _ _ _ _ h)
structure LpSt (T:dX) (f:Nat) (Hx:Int) (b2:rF) (B:Nat) (w:ω) (sa ta fa ra wa gs gf bt bc cc br cr bg cg:Nat) (i:Nat) (Qe:Int) (b:rF) (wr:ω):Prop where
 aQ:BAt B wr sa ta fa ra wa gs gf bt (I T.gO) b
 tab:gM B wr bt T bc cc br cr bg cg
 rest:eU T f (I T.gO-i) i Qe b=some (Hx,b2)
 ls:I b.state=I T.gO
 lf:I b.far=I T.gO
 nn:∀ j,0<=χ b.far j 0
 best0:0<=Qe/\Qe<=1000000
 below:Below B w wr
theorem bA (w:ω) (o:Obj) (k:Nat) (h:k=w.t):(κ w o).heap[k]?=some o:=by rw[aV,zP h]
theorem bS (w:ω) (o:Obj) (k:Nat) (h:k<w.t):(κ w o).e w k:=by grind [aV]
def sN (w:ω) (bt n S:Nat):World:=
 (κ (κ (κ (κ (κ (κ w (Ω #[aF bt] 93)) (Ω (dP (ψ n 0)).toArray 3)) (Ω #[σ (S+1) n n] 24)) (Ω (dP (ψ n 0)).toArray 3)) (Ω #[σ (S+1+1+1) n n] 24)) (Ω #[φ false] 4)).alloc
   (Ω #[walkV (S+1+1) S (S+1+1+1+1) (S+1+1+1+1+1) (S+1+1+1+1+1+1)] 185)
theorem world7_at (w:ω) (bt n B:Nat) (hn:n<=1000000) (hB:B<=w.t):
 BAt B (sN w bt n w.t) (w.t+1+1) w.t (w.t+1+1+1+1) (w.t+1+1+1+1+1) (w.t+1+1+1+1+1+1) (w.t+1) (w.t+1+1+1) bt n ⟨ψ n 0,ψ n 0,false⟩/\
  w.u (sN w bt n w.t):=by
 refine⟨⟨?_,?_,?_,?_,?_,zc2 _ _ _ hn ?_,zc2 _ _ _ hn ?_,zo,zo,zo,zo⟩,?_⟩
 . unfold sN;rw[bS _ _ _ zs,bS _ _ _ zs,bS _ _ _ zs,bS _ _ _ zs,bA _ _ _ zs]
 . grind [sN,bS,bA]
 . unfold sN;rw[bS _ _ _ zs,bS _ _ _ zs,bA _ _ _ zs]
 . unfold sN;rw[bS _ _ _ zs,bA _ _ _ zs]
 . unfold sN;rw[bA _ _ _ zs]
 . unfold sN;rw[bS _ _ _ zs,bS _ _ _ zs,bS _ _ _ zs,bS _ _ _ zs,bS _ _ _ zs,bA _ _ _ zs]
 . unfold sN;rw[bS _ _ _ zs,bS _ _ _ zs,bS _ _ _ zs,bA _ _ _ zs]
 exact ((((((Ξ w _).alloc zs _).alloc zx _).alloc zx _).alloc zx _).alloc zx _).alloc zx _
theorem bound_any (T:dX) (R f:Nat) (hT:yV T R) (Hx:Int) (b2:rF) (hl:eU T f (I T.gO) 0 0 ⟨ψ (I T.gO) 0,ψ (I T.gO) 0,false⟩=some (Hx,b2)) (Hg:∀ j,χ b2.far j 0<=1000000)
 (B0:Nat) (w:ω) (bt bc cc br cr bg cg:Nat) (hTab0:gM B0 w bt T bc cc br cr bg cg) (hBw0:B0<=w.t):
 Γ 71 #[aF bt] w λe w'=>e=ρ (ι (if b2.round then -1 else Hx+1))/\w.u w':=by
 obtain⟨B,hB⟩:=zE (w.heap.size);have Q8:gM B w bt T bc cc br cr bg cg:=hTab0.mono zo;have dv:B<=w.t:=zo
 have JL:=zh hB;clear hTab0 hBw0 hB;have:=Q8.size.2;have:=hT.some';have GZ:=zcs (I T.gO) zo;have g2:=Q8.c2;have:bt<w.t:=zLd Q8.lt dv;have lb1:bt<w.t+1:=zo
 have lb2:bt<w.t+1+1:=zo
 have WF:=zh Q8;have HT:=zh hT;have HL:=zh hl;have Q3:=zh Hg;clear Q8 hT hl Hg;go_in;go_upto_region 6 with fail
 obtain⟨mq,yv⟩:=world7_at w bt (I T.gO) B zo dv;change Code.wp _ _ _ _ (sN w bt (I T.gO) w.t);have Zu:=WF.o.below (zak yv dv);generalize sN w bt (I T.gO) w.heap.size=w7 at*;obtain⟨S,hS⟩:=zE (w.heap.size);rw[<-hS] at mq ⊢;generalize Nw:S+1+1=sa at*;generalize I0:S+1=gs at*;generalize SD:sa+1=gf at*;generalize JB:gf+1=fa at*;generalize VS:fa+1=ra at*;generalize DW:ra+1=wa at*
 have Hh:LpSt T f Hx b2 B w7 sa S fa ra wa gs gf bt bc cc br cr bg cg 0 0 ⟨ψ (I T.gO) 0,ψ (I T.gO) 0,false⟩ w7:=
  ⟨mq,Zu,HL.o,zs,zs,λj=>by
   grind,zo,iM⟩
 have Hl:=zh Hh;have yc:=zh yv;have:=zq 0 mq.ht;have:=aA mq.ht;have:=Zu.c2;have:bt<w7.t:=zo
 have:B<=S:=zo
 clear Hh yv mq Zu Nw I0 SD JB VS DW GZ g2 lb1 lb2 hS;go_wp2_with fail;go_loopw [7,27] (λs7 s27 wr=>∃ (i:Nat) (Qe:Int) (b:rF),s27=ι i/\s7=ι Qe/\i<=I T.gO/\LpSt T f Hx b2 B w7 sa S fa ra wa gs gf bt bc cc br cr bg cg i Qe b wr) (λ_ s27 _=>I T.gO-(ϑ s27).toNat)
 case atStart=>exact⟨0,0,_,rfl,rfl,zo,Hl.o⟩
 case round=>
  obtain⟨i,Qe,b,rfl,rfl,hi,hS⟩:=hrel;have HS:=zh hS;clear hS Hl;by_cases Hf:i<I T.gO
  . have hz:=zt i (I T.gO)
    have:=mF i;have Ha:=HS.o.rest;obtain⟨n',V9⟩:∃ n',I T.gO-i=n'+1:=⟨I T.gO-i-1,zo⟩;rw[V9,eU] at Ha;have XG:n'=I T.gO-(i+1):=zo
    rw[XG] at Ha;have hrx:∃ x,T.rU[i]?=some x/\χ T.rU i 0=x:=by
     have hl:i<I T.rU:=by rw[HT.o.rules];exact Hf
     exact⟨T.rU[i],zLe hl,zg⟩
    obtain⟨rx,je,jg⟩:=hrx;rw[jg] at Ha;have k0:=zq 0 HS.o.aQ.ht;have k1:=HS.o.tab.c1;have k2:=HS.o.tab.rU i rx je;have k3:=zq 0 HS.o.aQ.hs;have k4:=aJ HS.o.aQ.rs i _ (gP (by rw[HS.o.ls];exact Hf));have k5:=zq 0 HS.o.aQ.hf;have lk0:=aA HS.o.aQ.ht;have:=HS.o.below.size;have:(i:Int)<(I T.rU:Int):=by rw[HT.o.rules];omega
    clear V9 XG je jg;by_cases tu:0<i/\rx<0
    . rw[zP tu] at Ha
      have xe:=zh Ha;have:=zp i
      have:=tu.2;clear Ha tu;go_wp2_with fail;go_roundw
      case rel=>exact⟨i+1,Qe,b,by go_num,rfl,zo,⟨HS.o.aQ,HS.o.tab,xe.o,HS.o.ls,HS.o.lf,HS.o.nn,HS.o.best0,HS.o.below⟩⟩
      case measure=>exact zY
    rw[zN tu] at Ha
    obtain⟨st,Hh⟩:=zE (χ b.state i 0);rw[<-Hh] at Ha k4;have hcut:(i=0/\¬ (0:Int)<(i:Int))\/((0:Int)<(i:Int)/\¬ rx<0):=zo
    clear tu Hh;by_cases Jo:st=0
    . rw[zP Jo] at Ha
      subst Jo;cases RM:sM T f i b with
      | none=>rw[RM] at Ha;cases Ha
      | some b9=>
      rw[RM] at Ha;simp only at Ha;have xe:=zh Ha;have oc:∀ j,χ b9.far j 0<=1000000:=λj=>by
       have h1:=pS _ _ _ _ _ _ Ha;exact Int.le_trans (h1.2.2 j) (Q3.o j)
      have Hj:=walk_any T R HT.o f i b b9 B wr sa S fa ra wa gs gf bt bc cc br cr bg cg RM HS.o.aQ HS.o.tab Hf HS.o.ls HS.o.lf HS.o.nn oc;have Bw:=(pY (T:=T) f).1 _ _ _ RM;have BY:=zh Bw;have qw:=zh Hj;have w0:=zq 0 HS.o.aQ.hw;clear Hj RM oc Ha Bw
      rcases hcut with⟨Bs,hc⟩|⟨hc,Cs⟩
      . have Lx:=zh Bs
        clear Bs;go_upto_region 13 with fail
        refine qw.o.mono ?_;rintro e w8 ⟨rfl,Am,Yf⟩;have QH:=zh (show BAt B w8 sa S fa ra wa gs gf bt (I T.gO) b9/\gM B w8 bt T bc cc br cr bg cg/\Below B w7 w8/\I b9.state=I T.gO/\I b9.far=I T.gO/\(∀ j,0<=χ b9.far j 0)/\True from
         ⟨Am,HS.o.tab.below Yf,HS.o.below.trans Yf,BY.o.1.trans HS.o.ls,BY.o.2.1.trans HS.o.lf,λj=>Int.le_trans (HS.o.nn j) (BY.o.2.2 j),trivial⟩)
        clear Am Yf k0 k1 k2 k3 k4 k5 lk0 w0;have xg:0<=χ b9.far i 0/\χ b9.far i 0<=1000000:=⟨QH.o.2.2.2.2.2.1 i,by
         have h1:=pS _ _ _ _ _ _ xe.o;exact Int.le_trans (h1.2.2 i) (Q3.o i)⟩
        have x0:=zq 0 QH.o.1.hf;have x1:=aJ QH.o.1.rf i _ (gP (by rw[QH.o.2.2.2.2.1];exact Hf));obtain⟨Fi,KE⟩:=zE (χ b9.far i 0);rw[<-KE] at x1 xg;have V3:=HS.o.best0;have Tx:=zh (show eU T f (I T.gO-(i+1)) (i+1) (max Qe Fi) b9=some (Hx,b2) by rw[KE];exact xe.o);clear KE;go_wp2_with fail;go_roundw
        case rel=>exact⟨i+1,max Qe Fi,b9,by go_num,rfl,zo,⟨QH.o.1,QH.o.2.1,Tx.o,QH.o.2.2.2.1,QH.o.2.2.2.2.1,QH.o.2.2.2.2.2.1,zo,QH.o.2.2.1⟩⟩
        case measure=>exact zY
      go_upto_region 13 with fail
      refine qw.o.mono ?_;rintro e w8 ⟨rfl,Am,Yf⟩;have QH:=zh (show BAt B w8 sa S fa ra wa gs gf bt (I T.gO) b9/\gM B w8 bt T bc cc br cr bg cg/\Below B w7 w8/\I b9.state=I T.gO/\I b9.far=I T.gO/\(∀ j,0<=χ b9.far j 0)/\True from
       ⟨Am,HS.o.tab.below Yf,HS.o.below.trans Yf,BY.o.1.trans HS.o.ls,BY.o.2.1.trans HS.o.lf,λj=>Int.le_trans (HS.o.nn j) (BY.o.2.2 j),trivial⟩)
      clear Am Yf k0 k1 k2 k3 k4 k5 lk0 w0;exact zzAH
    rw[zN Jo] at Ha
    simp only at Ha;obtain⟨b9,XN⟩:∃ b9:rF,b9=b:=⟨_,rfl⟩;rw[<-XN] at Ha;have xe:=zh Ha;have QH:=zh (show BAt B wr sa S fa ra wa gs gf bt (I T.gO) b9/\gM B wr bt T bc cc br cr bg cg/\Below B w7 wr/\I b9.state=I T.gO/\I b9.far=I T.gO/\(∀ j,0<=χ b9.far j 0)/\True from
     by rw[XN];exact⟨HS.o.aQ,HS.o.tab,HS.o.below,HS.o.ls,HS.o.lf,HS.o.nn,trivial⟩)
    clear Ha XN
    rcases hcut with⟨Bs,hc⟩|⟨hc,Cs⟩
    . have Lx:=zh Bs
      clear Bs;exact zzAH
    skip
    exact zzAH
  have hz:=zn i (I T.gO)
  have Ha:=HS.o.rest;rw[show I T.gO-i=0 by omega,eU] at Ha;cases Ha;have r0:=zq 0 HS.o.aQ.hr;have V3:=HS.o.best0;have:=lM (n:=Hx+1);have Cb:w.u wr:=by
   have h1:=HS.o.below;rw[JL.o] at h1;exact yc.o.trans h1
  cases EZ:b2.round with
  | true=>
   rw[EZ] at r0;have HRD:=zh EZ;clear EZ;go_wp2
   all_goals (go_ret;simp_all)
  | false=>
   rw[EZ] at r0;have HRD:=zh EZ;clear EZ;go_wp2
   all_goals (go_ret;refine⟨?_,Cb⟩;first|rfl|(simp[Act.eval];done)|(have:=HRD.o;simp_all))
open Go.WideMaps (KeyLaw ArrKey keyOf_pair)
open Go.ChangeMaps (setBlock heap_setBlock_same)
theorem setLaid:laidOutB prog=true:=by kernel_rfl
theorem setRow:(176:TypeId)<prog.types.size:=of_decide_eq_true zs
theorem setArr:ArrKey prog 176 174 2:=⟨underlying176,zK,zK,zK⟩
theorem zf2:KeyLaw prog 176:=deep_law_laid setLaid (m:=2) zo setRow zK zs
theorem setWf (a:Nat) (h:a<W64):(Lit.int .u64 (a:Int)).wf=true:=by
 have:IntKind.u64.min=0:=zd
 have:IntKind.u64.max=18446744073709551615:=zd
 grind [Lit.wf]
theorem setKey (s:aZ) (h:s.Ok):∃ l,keyOf prog 176 (qV s)=some l:=
 ⟨_,keyOf_pair setArr underlying174 ⟨_,rfl⟩ (setWf s.1 h.1) (setWf s.2 h.2)⟩
theorem zh4 {o:aZ} (h:qV s=qV o):s=o:=by
 grind [qV]
def MpAt (w:ω) (b:Nat) (sE:List aZ):Prop:=∃ es clock,w.heap[b]?=some (.map es clock)/\es.size=I sE/\∀ (j:Nat) (e:MapEntry),es.toList[j]?=some e->∃ s,sE[j]?=some s/\e.key=qV s/\e.val=ι j
theorem MpAt.keys {es:Array MapEntry} (Hq:∀ s∈sE,s.Ok) (h:∀ (j:Nat) (e:MapEntry),es.toList[j]?=some e->∃ s,sE[j]?=some s/\e.key=qV s/\e.val=ι j):∀ e∈es.toList,∃ l,keyOf prog 176 e.key=some l:=by
 intro e he;obtain⟨j,hj⟩:=List.getElem?_of_mem he;obtain⟨s,hs,hk,_⟩:=h j e hj;rw[hk];exact setKey s (Hq s (zM hs))
theorem zero_int (w:ω):(zeroValue 3).run prog w=.ok (ι 0) w:=by simp
theorem map_look (h:MpAt w b sE) (Hq:∀ s∈sE,s.Ok) (nw:sE.Nodup) (to':aZ) (ht:to'.Ok):
 (Instr.lookup 186 (.map (some b)) (qV to') true).run prog w=.ok (ϕ #[ι (((sE.findIdx? (λx=>decide (x=to'))).getD 0:Nat):Int),φ (sE.findIdx? (λx=>decide (x=to'))).isSome]) w:=by
 obtain⟨es,clock,hb,Hv,M9⟩:=h;obtain⟨kl,Ck⟩:=setKey to' ht;have hu:=underlying186
 rcases zf2.find w Ck es.toList (MpAt.keys Hq M9) with⟨h1,h2⟩|⟨j,e0,h1,h2,h3⟩
 . have OT:sE.findIdx? (λx=>decide (x=to'))=none:=by
    rw[List.findIdx?_eq_none_iff];intro x hx;rw[decide_eq_false_iff_not];intro e;obtain⟨j,hj⟩:=List.getElem?_of_mem hx;have:j<es.size:=by rw[Hv];exact (List.getElem?_eq_some_iff.1 hj).1
    obtain⟨s,hs,hk,_⟩:=M9 j es[j] zs;rw[hj] at hs;cases hs;exact h2 es[j] zs zg
   rw[OT];simp[Instr.lookup,run_underlying hu,MapKept.run_getObj_map hb,zf2.check w _ Ck,h1,zero_int,Result.andThen]
 obtain⟨s,hs,hk,hv⟩:=M9 j e0 h2
 have Hh:s=to':=zh4 zg;subst Hh;have AI:sE.findIdx? (λx=>decide (x=s))=some j:=by
  obtain⟨xi,EH⟩:=List.getElem?_eq_some_iff.1 hs;rw[List.findIdx?_eq_some_iff_getElem];refine⟨xi,zg,λi hi=> ?_⟩;rw[decide_eq_true_eq];intro e;exact absurd (e.trans EH.symm) ((List.pairwise_iff_getElem.1 nw) i j zo xi hi)
 rw[AI];simp[Instr.lookup,run_underlying hu,MapKept.run_getObj_map hb,zf2.check w _ Ck,h1,hv,Result.andThen]
theorem map_put (h:MpAt w b sE) (Hq:∀ s∈sE,s.Ok) (to':aZ) (ht:to'.Ok) (K6:sE.findIdx? (λx=>decide (x=to'))=none):
 ∃ w',(Instr.mapUpdate 186 (.map (some b)) (qV to') (ι (I sE:Int))).run prog w=.ok () w'/\MpAt w' b (sE++[to'])/\w.g w' b:=by
 obtain⟨es,clock,hb,Hv,M9⟩:=h;obtain⟨kl,Ck⟩:=setKey to' ht;have hu:=underlying186;rw[List.findIdx?_eq_none_iff] at K6
 rcases zf2.find w Ck es.toList (MpAt.keys Hq M9) with⟨h1,h2⟩|⟨j,e0,h1,h2,h3⟩
 . refine⟨setBlock w b (.map (es.push ⟨qV to',ι (I sE:Int),clock⟩) (clock+1)),?_,⟨_,_,heap_setBlock_same hb _,zg,λj e he=> ?_⟩,⟨rfl,rfl,rfl,by simp[setBlock],λi _ hi=>Go.ChangeMaps.heap_setBlock_other hb _ (λe=>hi (by rw[e]))⟩⟩
   . simp[Instr.mapUpdate,run_underlying hu,MapKept.run_getObj_map hb,zf2.check w _ Ck,h1,MapKept.run_setObj_map _ hb,Result.andThen,setBlock]
   grind
 grind [zh4]
theorem map_new (w:ω):MpAt (κ w (.map #[] 0)) w.t []:=⟨#[],0,by rw[aV,zP rfl],rfl,λj e he=>zg⟩
theorem MpAt.kept (h:MpAt w b sE) (hx:w'.e w b):MpAt w' b sE:=by
 obtain⟨es,clock,h1,h2,h3⟩:=h;exact⟨es,clock,hx.trans h1,h2,h3⟩
end
section
open Go.RowKit Go.Lib Tryz
theorem zd9:eO prog 99 24 1 24:=eO.of (z:=ν) underlying99 zK rfl zd
theorem zfY (l r:List aZ):setCells (l++r)=setCells l++setCells r:=by simp[setCells]
theorem make_sets (n:Nat) (hn:n<=1000000) (w:ω):(Instr.makeSlice 157 (ι (n:Int)) (ι (n:Int))).run prog w=.ok (σ w.t n n) (κ w (Ω (setCells (ψ n (0,0))).toArray 176)):=by
 obtain⟨i,h1,h2,h3,h4⟩:=info_parts (P:=prog) (e:=176) (z:=.agg #[υ 0,υ 0]) (size:=2) (bytes:=16) zK;have:=run_makeSlice w 157 176 i (.agg #[υ 0,υ 0]) underlying157 h1 h2 .i64 .i64 n n zo (Int.le_refl _) zg zg zo;have e:madeCells (Value.agg #[υ 0,υ 0]).cells (n*2)=(setCells (ψ n (0,0))).toArray:=by
  apply Array.ext';have e1:∀ k,(setCells (ψ k (0,0)))=ψ (k*2) (υ 0):=by
   intro k
   induction k with
   | zero=>rfl
   | succ k ih=>
    rw[List.replicate_succ,show (k+1)*2=k*2+1+1 by omega,List.replicate_succ,List.replicate_succ,<-ih];rfl
  rw[e1];refine List.eq_replicate_iff.2 ⟨by simp[size_madeCells],λx hx=> ?_⟩;simp only[madeCells,Array.toList_map,List.mem_map] at hx;obtain⟨i,_,rfl⟩:=hx
  rcases Nat.mod_two_eq_zero_or_one i with h2|h2
  . exact zzDd
  exact zzDd
 grind
theorem zfZ (l:List aZ) (i:Nat) (s:aZ) (h:i<I l):setCells (l.set i s)=((setCells l).set (2*i) (υ s.1)).set (2*i+1) (υ s.2):=by
 induction l generalizing i with
 | nil=>simp at h
 | cons a l ih=>
  have:∀ (a:aZ) (l:List aZ),setCells (a::l)=υ a.1:: υ a.2::setCells l:=λ_ _=>rfl;cases i with
  | zero=>rfl
  | succ i=>
   grind
theorem oB {a b c:ω} (h:Below B a b) (k:b.u c) (hB:B<=b.t):Below B a c:=
 ⟨k.os.trans h.os,k.tape.trans h.tape,k.output.trans h.output,zT h.size k.size,λx hx=>(k.block x zo).trans (h.block x hx)⟩
structure jM (w0:ω) (n:Nat) (cU:List Int) (ms:List aZ) (tb bc cc mb mp:Nat) (rc:ζ) (tag:Nat->Nat) (sE:List aZ) (rU:List Int) (gO:List (List Int)) (vs vr vg:Value) (yt:ζ) (wr:ω):Prop where
 pos:0<w0.heap.size
 below:w0.u wr
 new:∀ g,tag g≠0->w0.t<=g
 ht:wr.h tb #[σ bc (I cU) cc,vr,vg,ι 0] 183
 fCuts:eP wr bc cU.toArray rc
 fMs:wr.r 176 2 (σ mb n n) n (setCells ms)
 fMap:MpAt wr mp sE
 fSets:wr.r 176 2 vs (I sE) (setCells sE)
 fRule:wr.r 3 1 vr (I rU) (dP rU)
 fGoes:wr.r 24 1 vg (I gO) yt
 rows:∀ (i:Nat) (row:List Int),gO[i]?=some row->∃ g c,yt[i]?=some (σ g (I row) c)/\wr.r 3 1 (σ g (I row) c) (I row) (dP row)/\tag g=6
 t1:tag tb=1
 t2:tag mp=2
 t3:∀ g,β vs=some g->tag g=3
 t4:∀ g,β vr=some g->tag g=4
 t5:∀ g,β vg=some g->tag g=5
 t6:tag bc=6/\tag mb=6
theorem kP.of_below (tag He:Nat->Nat) (c b:Nat) (hb:w.u w') (ht:∀ x,x<w.heap.size->He x=tag x):kP tag He c b w w':=⟨hb.os,hb.tape,hb.output,hb.size,ht,λx hx _ _=>hb.block x hx⟩
theorem kP.of_grown (tag:Nat->Nat) (c b:Nat) (hg:w.g w' b):kP tag tag c b w w':=⟨hg.os,hg.tape,hg.output,hg.size,λ_ _=>rfl,λx hx _ hn=>hg.block x hx (λe=>hn zg)⟩
theorem zaz {tag:Nat->Nat} {e:TypeId} {size m:Nat} {v v':Value} {xs qm:ζ} {c off:Nat} {cells:Array Value} {t:TypeId} (ob:Obj)
 (hb:w.h b cells t) (Dc:tag b≠c) (hv:∀ g,β v=some g->g<w.t/\tag g=c)
 (Hb:w2.r e size v' (n+m) (xs++qm)) (hg:(κ w ob).grownBy w2 (β v)) (qh:β v'=β v\/β v'=some (κ w ob).heap.size):
 kP tag (dI tag (w.t+1) c) c b w (ς w2 (b.p off) v')/\(ς w2 (b.p off) v').h b (cells.setIfInBounds off v') t/\
  (ς w2 (b.p off) v').r e size v' (n+m) (xs++qm)/\(∀ g,β v'=some g->dI tag (w.t+1) c g=c):=by
 have hB:=(zBr w.t w).alloc bR ob;have TX:=aA hb;have Yk:(κ w ob).heap.size=w.heap.size+1:=zs
 have:w.heap.size+1<=w2.heap.size:=by rw[<-Yk];exact hg.size
 have XQ:∀ x,x<w.heap.size->tag x≠c->x≠b->(ς w2 (b.p off) v').e w x:=by
  exact zzB7
 have Hm:w2.h b cells t:=(hg.block b (zLd TX hB.size) (λe=>Dc (hv b e.symm).2)).trans ((hB.block b TX).trans hb);refine⟨⟨hg.os.trans hB.os,hg.tape.trans hB.tape,hg.output.trans hB.output,zx,λx hx=>dJ zo,XQ⟩,aB w2 b off v' _ _ _ Hm,?_,?_⟩
 all_goals grind [aU,aD,dJ,mC]
section
variable {w0 w w':ω} {n:Nat} {cU:List Int} {ms:List aZ} {tb bc cc mb mp:Nat} {rc:ζ} {tag He:Nat->Nat} {sE:List aZ} {rU:List Int} {gO:List (List Int)} {vs vr vg:Value} {yt:ζ} {c b:Nat}
theorem zaU (h:w0.u w) (hn:∀ g,tag g≠0->w0.t<=g) (hu:kP tag He c b w w') (hc:c≠0) (hb:w0.t<=b):w0.u w':=
 ⟨hu.os.trans h.os,hu.tape.trans h.tape,hu.output.trans h.output,zT h.size hu.size,λx hx=>(hu.keep x (zLd hx h.size) (λe=>zg) zo).trans (h.block x hx)⟩
theorem zcv {d:Nat} (hu:kP tag He c b w w') (hd:6≠c) (hb:tag b≠6) (h:∀ (i:Nat) (row:List Int),gO[i]?=some row->∃ g c,yt[i]?=some (σ g (I row) c)/\w.r 3 1 (σ g (I row) c) (I row) (dP row)/\tag g=6):
 ∀ (i:Nat) (row:List Int),gO[i]?=some row->∃ g c,yt[i]?=some (σ g (I row) c)/\w'.r 3 1 (σ g (I row) c) (I row) (dP row)/\He g=6:=λi row hr=>by
 obtain⟨g,cp,h1,h2,h3⟩:=h i row hr;have r:=hu.row h2 (d:=6) (λg' QY=>by cases QY;exact h3) hd hb;exact⟨g,cp,h1,r.1,r.2 g rfl⟩
theorem jM.next (h:jM w0 n cU ms tb bc cc mb mp rc tag sE rU gO vs vr vg yt w) (hu:kP tag He c b w w') (hn:∀ g,He g≠0->w0.t<=g) (hc:7<=c) (hb:tag b=0\/7<=tag b) (qh:w0.u w'):jM w0 n cU ms tb bc cc mb mp rc He sE rU gO vs vr vg yt w':=by
 have own:∀ {v:Value} {e:TypeId} {size k:Nat} {xs:ζ} {d:Nat},w.r e size v k xs->(∀ g,β v=some g->tag g=d)->0<d->d<7->w'.r e size v k xs/\∀ g,β v=some g->He g=d:=
  λhr ht h0 hd=>hu.row hr ht zo zo
 have ne:∀ x d,tag x=d->0<d->d<7->x≠b:=λx d hx h0 h7 e=>by grind
 have blk:∀ {x:Nat} {o:Obj} {d:Nat},w.heap[x]?=some o->tag x=d->0<d->d<7->w'.heap[x]?=some o/\He x=d:=λhx hd h0 h7=>by
  have:=hu.blk hx zo (ne _ _ hd h0 h7)
  grind
 have b1:=blk h.ht h.t1 zd zd;have b6:=blk h.fCuts h.t6.1 zd zd;have r6:=own h.fMs (d:=6) (λg hg=>by cases hg;exact h.t6.2) zd zd;have r3:=own h.fSets h.t3 zd zd;have r4:=own h.fRule h.t4 zd zd;have r5:=own h.fGoes h.t5 zd zd;obtain⟨es,clock,hm,_,_⟩:=h.fMap;have b2:=blk hm h.t2 zd zd
 exact⟨h.pos,qh,hn,b1.1,b6.1,r6.1,h.fMap.kept (b2.1.trans hm.symm),r3.1,r4.1,r5.1,zcv (d:=0) hu zo zo h.rows,b1.2,b2.2,r3.2,r4.2,r5.2,⟨b6.2,r6.2 mb rfl⟩⟩
theorem jM.tag0 (h:jM w0 n cU ms tb bc cc mb mp rc tag sE rU gO vs vr vg yt w):tag 0=0:=by
 rcases Nat.eq_zero_or_pos (tag 0) with h0|h0
 . exact h0
 have:=h.new 0 zo;have:=h.pos;omega
theorem jM.later (h:jM w0 n cU ms tb bc cc mb mp rc tag sE rU gO vs vr vg yt w) (hb:w.u w'):jM w0 n cU ms tb bc cc mb mp rc tag sE rU gO vs vr vg yt w':=
 h.next (c:=9) (b:=0) (kP.of_below tag tag 9 _ hb (λ_ _=>rfl)) h.new zo (.inl h.tag0) (oB h.below hb h.below.size)
theorem jM.other (h:jM w0 n cU ms tb bc cc mb mp rc tag sE rU gO vs vr vg yt w) (g:Nat) (hg:7<=tag g) (hw:w.g w' g):jM w0 n cU ms tb bc cc mb mp rc tag sE rU gO vs vr vg yt w':=
 h.next (c:=tag g) (b:=g) (kP.of_grown tag (tag g) g hw) h.new hg (.inr hg) (zaU h.below h.new (kP.of_grown tag (tag g) g hw) zo (h.new g zo))
theorem jM.mark (h:jM w0 n cU ms tb bc cc mb mp rc tag sE rU gO vs vr vg yt w) (hb:w.u w') (g d:Nat) (hg:w.t<=g) (hd:7<=d):jM w0 n cU ms tb bc cc mb mp rc (dI tag g d) sE rU gO vs vr vg yt w':=
 h.next (c:=9) (b:=0) (kP.of_below tag _ 9 _ hb (λx hx=>dJ zo)) (λx hx=>by
  by_cases e:x=g
  . have:=h.below.size;omega
  rw[dJ e] at hx;exact h.new x hx) zo (.inl h.tag0) (oB h.below hb h.below.size)
theorem jM.put (h:jM w0 n cU ms tb bc cc mb mp rc tag sE rU gO vs vr vg yt w) (to':aZ) (hg:w.g w' mp) (hm:MpAt w' mp (sE++[to'])):
 ∀ (w2:ω) (Qz:Nat->Nat) (v':Value),kP tag Qz 3 mp w' w2->(∀ g,Qz g≠0->w0.t<=g)->w2.r 176 2 v' (I sE+1) (setCells sE++[υ to'.1,υ to'.2])->(∀ g,β v'=some g->Qz g=3)->w2.e w' mp->
 jM w0 n cU ms tb bc cc mb mp rc Qz (sE++[to']) rU gO v' vr vg yt w2:=by
 intro w2 Qz v' hu hn Hb Vu SJ;have NJ:kP tag tag 2 mp w w':=kP.of_grown tag 2 mp hg;have ne:∀ x d,tag x=d->d≠2->x≠mp:=λx d hx hd e=>by rw[e,h.t2] at hx;omega
 have b1:=NJ.blk h.ht zzDQ (ne _ _ h.t1 zd);have b6:=NJ.blk h.fCuts zzC8 (ne _ _ h.t6.1 zd);have r6:=NJ.row h.fMs (d:=6) (λg hg=>by cases hg;exact h.t6.2) zd zg;have r4:=NJ.row h.fRule h.t4 zd zg;have r5:=NJ.row h.fGoes h.t5 zd zg;have c1:=hu.blk b1.1 zzDQ (ne _ _ h.t1 zd);have c6:=hu.blk b6.1 zzC8 (ne _ _ h.t6.1 zd);have s6:=hu.row r6.1 r6.2 zd zg
 have s4:=hu.row r4.1 r4.2 zd zg;have s5:=hu.row r5.1 r5.2 zd zg;have rows:=zcv (d:=0) hu zd zg (zcv (d:=0) NJ zd zg h.rows);have OH:w0.t<=mp:=h.new mp zg;have YI:=zaU h.below h.new NJ zd OH;have QX:=zaU YI h.new hu zd OH;have I6:=hm;obtain⟨es,clock,YR,_,_⟩:=hm;have el:I (sE++[to'])=I sE+1:=zs
 exact⟨h.pos,QX,hn,c1.1,c6.1,s6.1,I6.kept SJ,by rw[el,zfY];exact Hb,s4.1,s5.1,rows,c1.2.trans h.t1,(hu.tags mp (aA YR)).trans h.t2,Vu,s4.2,s5.2,⟨c6.2.trans h.t6.1,s6.2 mb rfl⟩⟩
theorem jM.fI (h:jM w0 n cU ms tb bc cc mb mp rc tag sE rU gO vs vr vg yt w) (g:Nat) (hg:tag g=7):jM w0 n cU ms tb bc cc mb mp rc (dI tag g 6) sE rU gO vs vr vg yt w:=by
 have k:∀ x d,tag x=d->d≠7->dI tag g 6 x=d:=λx d hx hd=>by grind [dJ]
 refine⟨h.pos,h.below,λx hx=> ?_,h.ht,h.fCuts,h.fMs,h.fMap,h.fSets,h.fRule,h.fGoes,λi row hr=> ?_,k _ _ h.t1 zd,k _ _ h.t2 zd,λx hx=>k _ _ (h.t3 x hx) zd,λx hx=>k _ _ (h.t4 x hx) zd,λx hx=>k _ _ (h.t5 x hx) zd,⟨k _ _ h.t6.1 zd,k _ _ h.t6.2 zd⟩⟩
 . by_cases e:x=g
   . exact h.new x zg
   rw[dJ e] at hx;exact h.new x hx
 obtain⟨b,c,h1,h2,h3⟩:=h.rows i row hr
 grind
theorem jM.pushGoes (h:jM w0 n cU ms tb bc cc mb mp rc tag sE rU gO vs vr vg yt w) (row:List Int) (rb cp:Nat) (hr:w.r 3 1 (σ rb (I row) cp) (I row) (dP row)) (jt:tag rb=6) (hu:kP tag He 5 tb w w') (hn:∀ g,He g≠0->w0.t<=g) (v':Value)
 (hl:w'.h tb #[σ bc (I cU) cc,vr,v',ι 0] 183) (Hb:w'.r 24 1 v' (I gO+1) (yt++[τ (some rb.a) (I row) cp])) (ht:∀ g,β v'=some g->He g=5):
 jM w0 n cU ms tb bc cc mb mp rc He sE rU (gO++[row]) vs vr v' (yt++[τ (some rb.a) (I row) cp]) w':=by
 have ne:∀ x d,tag x=d->d≠1->x≠tb:=λx d hx hd e=>by rw[e,h.t1] at hx;omega
 have b6:=hu.blk h.fCuts zzC8 (ne _ _ h.t6.1 zd);have r6:=hu.row h.fMs (d:=6) (λg hg=>by cases hg;exact h.t6.2) zd zg;have r3:=hu.row h.fSets h.t3 zd zg;have r4:=hu.row h.fRule h.t4 zd zg;have rr:=hu.row hr (d:=6) (λg hg=>by cases hg;exact jt) zd zg;have rows:=zcv (d:=0) hu zd zg h.rows;obtain⟨es,clock,hm,_,_⟩:=h.fMap;have b2:=hu.blk hm (by rw[h.t2];decide) (ne _ _ h.t2 zd)
 have el:I (gO++[row])=I gO+1:=zs
 have gl:I yt=I gO:=by have:=h.fGoes.1;simpa using this
 refine⟨h.pos,zaU h.below h.new hu zd (h.new tb zg),hn,hl,b6.1,r6.1,h.fMap.kept (b2.1.trans hm.symm),r3.1,r4.1,by rw[el];exact Hb,?_,(hu.tags tb (aA h.ht)).trans h.t1,b2.2.trans h.t2,r3.2,r4.2,ht,⟨b6.2.trans h.t6.1,r6.2 mb rfl⟩⟩;intro i x hx
 rcases zLg i (I gO) with hi|hi
 . grind
 rw[zGr hi] at hx
 have Yj:i=I gO:=by
  rcases zLg (i-I gO) 1 with h1|h1
  . omega
  grind
 subst Yj;simp at hx;subst hx;exact⟨rb,cp,zg,rr.1,rr.2 rb rfl⟩
theorem jM.pushRule (h:jM w0 n cU ms tb bc cc mb mp rc tag sE rU gO vs vr vg yt w) (x:Int) (hu:kP tag He 4 tb w w') (hn:∀ g,He g≠0->w0.t<=g) (v':Value)
 (hl:w'.h tb #[σ bc (I cU) cc,v',vg,ι 0] 183) (Hb:w'.r 3 1 v' (I rU+1) (dP rU++[ι x])) (ht:∀ g,β v'=some g->He g=4):
 jM w0 n cU ms tb bc cc mb mp rc He sE (rU++[x]) gO vs v' vg yt w':=by
 have ne:∀ x d,tag x=d->d≠1->x≠tb:=λx d hx hd e=>by rw[e,h.t1] at hx;omega
 have b6:=hu.blk h.fCuts zzC8 (ne _ _ h.t6.1 zd);have r6:=hu.row h.fMs (d:=6) (λg hg=>by cases hg;exact h.t6.2) zd zg;have r3:=hu.row h.fSets h.t3 zd zg;have r5:=hu.row h.fGoes h.t5 zd zg;have rows:=zcv (d:=0) hu zd zg h.rows;obtain⟨es,clock,hm,_,_⟩:=h.fMap;have b2:=hu.blk hm (by rw[h.t2];decide) (ne _ _ h.t2 zd);have el:I (rU++[x])=I rU+1:=zs
 exact⟨h.pos,zaU h.below h.new hu zd (h.new tb zg),hn,hl,b6.1,r6.1,h.fMap.kept (b2.1.trans hm.symm),r3.1,by rw[el];unfold dP at*;rw[List.map_append];exact Hb,r5.1,rows,(hu.tags tb (aA h.ht)).trans h.t1,b2.2.trans h.t2,r3.2,ht,r5.2,⟨b6.2.trans h.t6.1,r6.2 mb rfl⟩⟩
theorem jM.putApp {gs cs:Nat} (h:jM w0 n cU ms tb bc cc mb mp rc tag sE rU gO (σ gs (I sE) cs) vr vg yt w) (to':aZ) {w1:ω} (hg:w.g w1 mp) (hm:MpAt w1 mp (sE++[to'])) (ob:Obj) (v':Value)
 (Hb:w2.r 176 2 v' (I sE+1) (setCells sE++[υ to'.1,υ to'.2])) (Qm:(κ w1 ob).g w2 gs) (qh:β v'=some gs\/β v'=some (κ w1 ob).heap.size):
 jM w0 n cU ms tb bc cc mb mp rc (dI tag (w1.t+1) 3) (sE++[to']) rU gO v' vr vg yt w2/\∀ b,b<w.heap.size->b≠mp->tag b≠3->w2.e w b/\dI tag (w1.t+1) 3 b=tag b:=by
 have:tag gs=3:=h.t3 gs rfl;have:=(h.fSets.lt gs rfl).2;have hB:=(zBr w1.t w1).alloc bR ob;have:(κ w1 ob).heap.size=w1.heap.size+1:=zs
 have hk:∀ b,b<w1.heap.size->b≠gs->w2.e w1 b:=λb hb hn=>(Qm.block b zo (λe=>hn zg)).trans (hB.block b hb);have:=Qm.size;have SJ:mp≠gs:=λe=>by have:=h.t2;grind
 obtain⟨es,clock,YR,_,_⟩:=h.fMap;have:=aA YR;have:=hg.size;have hu:kP tag (dI tag (w1.t+1) 3) 3 mp w1 w2:=⟨Qm.os.trans hB.os,Qm.tape.trans hB.tape,Qm.output.trans hB.output,zo,λx hx=>dJ zo,λx hx hc _=>hk x hx (λe=>hc zg)⟩;refine⟨h.put to' hg hm w2 _ v' hu (λg QY=> ?_) Hb (λg QY=> ?_) (hk mp zo SJ),λb hb hn ht=>⟨(hk b zo (λe=>ht zg)).trans (hg.block b hb (λe=>hn zg)),dJ zo⟩⟩
 . by_cases e:g=w1.t+1
   . have:=h.below.size;omega
   rw[dJ e] at QY;exact h.new g QY
 grind [dJ,mC]
theorem jM.newTag (h:jM w0 n cU ms tb bc cc mb mp rc tag sE rU gO vs vr vg yt w) (c:Nat):∀ g,dI tag (w.t+1) c g≠0->w0.t<=g:=λg hg=>by
 by_cases e:g=w.t+1
 . have:=h.below.size;omega
 rw[dJ e] at hg;exact h.new g hg
theorem jM.appGoes (h:jM w0 n cU ms tb bc cc mb mp rc tag sE rU gO vs vr vg yt w) (row:List Int) (rb cp n':Nat) (V8:I row=n') (hr:w.r 3 1 (σ rb n' cp) n' (dP row)) (jt:tag rb=6) (ob:Obj) (v':Value)
 (Hb:w2.r 24 1 v' (I gO+1) (yt++[τ (some rb.a) n' cp])) (hg:(κ w ob).grownBy w2 (β vg)) (qh:β v'=β vg\/β v'=some (κ w ob).heap.size):
 jM w0 n cU ms tb bc cc mb mp rc (dI tag (w.t+1) 5) sE rU (gO++[row]) vs vr v' (yt++[τ (some rb.a) n' cp]) (ς w2 (tb.p 2) v'):=by
 subst V8;obtain⟨a1,a2,a3,a4⟩:=zaz (tag:=tag) (c:=5) (off:=2) ob h.ht zzDQ (λg hg=>⟨(h.fGoes.lt g hg).2,h.t5 g hg⟩) Hb hg qh;exact h.pushGoes row rb cp hr jt a1 (h.newTag 5) v' a2 a3 a4
theorem jM.appRule (h:jM w0 n cU ms tb bc cc mb mp rc tag sE rU gO vs vr vg yt w) (x:Int) (ob:Obj) (v':Value)
 (Hb:w2.r 3 1 v' (I rU+1) (dP rU++[ι x])) (hg:(κ w ob).grownBy w2 (β vr)) (qh:β v'=β vr\/β v'=some (κ w ob).heap.size):
 jM w0 n cU ms tb bc cc mb mp rc (dI tag (w.t+1) 4) sE (rU++[x]) gO vs v' vg yt (ς w2 (tb.p 1) v'):=by
 obtain⟨a1,a2,a3,a4⟩:=zaz (tag:=tag) (c:=4) (off:=1) ob h.ht zzDQ (λg hg=>⟨(h.fRule.lt g hg).2,h.t4 g hg⟩) Hb hg qh;exact h.pushRule x a1 (h.newTag 4) v' a2 a3 a4
theorem jM.tabAt {gr cr gg cg:Nat} (h:jM w0 n cU ms tb bc cc mb mp rc tag sE rU gO vs (σ gr (I rU) cr) (σ gg (I gO) cg) yt w) (Vn:I cU<=cc) (Hv:I cU<1000000) (Rg:I gO<1000000) (bnd:Int) (w2:ω)
 (hk:∀ b,b≠tb->w2.e w b) (Xy:w2.h tb #[σ bc (I cU) cc,σ gr (I rU) cr,σ gg (I gO) cg,ι bnd] 183):
 gM w2.t w2 tb ⟨cU,rU,gO,bnd⟩ bc cc gr cr gg cg:=by
 have ne:∀ x d,tag x=d->d≠1->x≠tb:=λx d hx hd e=>by rw[e,h.t1] at hx;omega
 have z0:=zq 0 Xy;have z1:=zq 1 Xy;have z2:=zq 2 Xy;have z3:=zq 3 Xy;have kc:=(hk bc (ne _ _ h.t6.1 zd)).trans h.fCuts;have kr:w2.r 3 1 (σ gr (I rU) cr) (I rU) (dP rU):=aU h.fRule (λg hg=>by cases hg;exact hk gr (ne _ _ (h.t4 gr rfl) zd))
 have kg:w2.r 24 1 (σ gg (I gO) cg) (I gO) yt:=aU h.fGoes (λg hg=>by cases hg;exact hk gg (ne _ _ (h.t5 gg rfl) zd));have P8:∀ (l:List Int) (i:Nat) (x:Int),l[i]?=some x->(dP l)[i]?=some (ι x):=λl i x hx=>by grind [dP]
 refine⟨aA Xy,z0,z1,z2,z3,⟨rc,kc⟩,aA kc,λi x hx=>aJ kr i _ (P8 _ _ _ hx),(kr.lt gr rfl).2,λi row hr=> ?_,(kg.lt gg rfl).2,Vn,⟨Hv,Rg⟩,⟨_,Xy⟩,dE kr rfl,dE kg rfl,λi b n c hi e=> ?_⟩;rotate_left
 . obtain⟨g,cp,h1,h2,h3⟩:=h.rows i _ (zLe hi)
   rw[aJ kg i _ h1] at e;cases e;exact dE (aU h2 (λg' hg=>by cases hg;grind):w2.r 3 1 (σ b _ c) _ _) rfl
 obtain⟨g,cp,h1,h2,h3⟩:=h.rows i row hr;have k2:w2.r 3 1 (σ g (I row) cp) (I row) (dP row):=aU h2 (λg' hg=>by cases hg;grind);exact⟨g,cp,aJ kg i _ h1,(k2.lt g rfl).2,λj x hx=>aJ k2 j _ (P8 _ _ _ hx)⟩
end
section
variable {w0 w w':ω} {n:Nat} {cU:List Int} {ms:List aZ} {tb bc cc mb mp:Nat} {rc:ζ} {tag:Nat->Nat} {sE:List aZ} {rU:List Int} {gO:List (List Int)} {vs vr vg:Value} {yt:ζ} {F:aZ} {fb rb:Nat} {sets2:List aZ} {tD:List Int} {k:Nat} {row:List Int}
