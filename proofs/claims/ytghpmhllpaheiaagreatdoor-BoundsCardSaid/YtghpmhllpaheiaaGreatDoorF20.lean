/- Part of a proof. No condition. -/
import Derived.Test.YtghpmhllpaheiaaGreatDoorF09
import Derived.Test.YtghpmhllpaheiaaGreatDoorF19
set_option linter.unusedVariables false
set_option linter.unusedSimpArgs false
set_option maxRecDepth 100000
set_option maxHeartbeats 40000000
namespace Go.Proofs.YtghpmhllpaheiaaGreatDoor
variable {l:List Int} {w w' wr w2:World} {g n cap B b:Nat} {s:aW} {T:iP} {sE:List aW}
section
open Go.RowKit Go.Lib
theorem qG:∀ (a b:List Int),a.Pairwise (· < ·)->b.Pairwise (· < ·)->(∀ x,x∈a↔x∈b)->a=b
 | [],[],_,_,_=>rfl
 | [],y::b,_,_,h=>absurd ((h y).2 (List.mem_cons_self ..)) (by simp)
 | x::a,[],_,_,h=>absurd ((h x).1 (List.mem_cons_self ..)) (by simp)
 | x::a,y::b,ha,hb,h=>by
  obtain⟨a1,a2⟩:=List.pairwise_cons.1 ha;obtain⟨b1,b2⟩:=List.pairwise_cons.1 hb;have e:x=y:=by
   rcases List.mem_cons.1 ((h x).1 (List.mem_cons_self ..)) with e|hx
   . exact e
   rcases List.mem_cons.1 ((h y).2 (List.mem_cons_self ..)) with e|hy
   . exact e.symm
   have h1:=b1 x hx
   have h2:=a1 y hy;omega
  subst e;congr 1;refine qG a b a2 b2 λz=>⟨λhz=> ?_,λhz=> ?_⟩
  . rcases List.mem_cons.1 ((h z).1 (List.mem_cons_of_mem _ hz)) with e|hz'
    . have:=a1 z hz;omega
    exact hz'
  rcases List.mem_cons.1 ((h z).2 (List.mem_cons_of_mem _ hz)) with e|hz'
  . have:=b1 z hz;omega
  exact hz'
theorem mB:∀ (l:List Int) (p:Int),(p::l).Pairwise (· <= ·)->(gV p l).Pairwise (· < ·)/\(∀ x∈gV p l,p<x)/\∀ x,(x=p\/x∈gV p l)↔(x=p\/x∈l)
 | [],p,_=>⟨by simp[gV],by simp[gV],λx=>by simp[gV]⟩
 | y::l,p,h=>by
  obtain⟨h1,h2⟩:=List.pairwise_cons.1 h;have hpy:=h1 y (List.mem_cons_self ..);rw[gV];split
  . rename_i e
    subst e;obtain⟨i1,i2,i3⟩:=mB l y h2;exact⟨i1,i2,λx=>by rw[i3 x];simp⟩
  rename_i e
  obtain⟨i1,i2,i3⟩:=mB l y h2;refine⟨List.pairwise_cons.2 ⟨i2,i1⟩,λx hx=> ?_,λx=> ?_⟩
  . rcases List.mem_cons.1 hx with rfl|hx
    . omega
    have:=i2 x hx;omega
  have:=i3 x
  simp only[List.mem_cons];constructor
  . rintro (e|e)
    . exact .inl e
    exact .inr (this.1 e)
  rintro (e|e)
  . exact .inl e
  exact .inr (this.2 e)
theorem zby (x:Int):∀ (l:List Int),l.Pairwise (· < ·)->(insU x l).Pairwise (· < ·)/\∀ y,y∈insU x l↔y=x\/y∈l
 | [],_=>⟨by simp[insU],λy=>by simp[insU]⟩
 | z::l,h=>by
  obtain⟨h1,h2⟩:=List.pairwise_cons.1 h;rw[insU];split
  . rename_i Hf
    refine⟨List.pairwise_cons.2 ⟨λy hy=> ?_,h⟩,λy=>by simp⟩
    rcases List.mem_cons.1 hy with rfl|hy
    . exact Hf
    have:=h1 y hy;omega
  split
  . rename_i e
    subst e;exact⟨h,λy=>by simp⟩
  rename_i hn he
  obtain⟨i1,i2⟩:=zby x l h2;refine⟨List.pairwise_cons.2 ⟨λy hy=> ?_,i1⟩,λy=> ?_⟩
  . rcases (i2 y).1 hy with rfl|hy
    . omega
    exact h1 y hy
  simp only[List.mem_cons,i2 y]
  constructor
  . rintro (e|e|e)
    . exact .inr (.inl e)
    . exact .inl e
    exact .inr (.inr e)
  rintro (e|e|e)
  . exact .inr (.inl e)
  . exact .inl e
  exact .inr (.inr e)
theorem jQ:∀ (l:List Int),(uW l).Pairwise (· < ·)/\∀ y,y∈uW l↔y∈l
 | []=>⟨List.Pairwise.nil,λy=>Iff.rfl⟩
 | x::l=>by
  obtain⟨i1,i2⟩:=jQ l;obtain⟨k1,k2⟩:=zby x (uW l) i1;exact⟨k1,λy=>by show y∈insU x (uW l)↔_;rw[k2 y,i2 y];simp⟩
theorem comp_sort {l':List Int} (hp:l'.Perm l) (hs:l'.Pairwise (· <= ·)):sZ l'=uW l:=by
 obtain⟨s1,s2⟩:=jQ l;have hm:∀ x,x∈sZ l'↔x∈l':=by
  intro x;cases l' with
  | nil=>simp[sZ]
  | cons a r=>
   have h:=(mB r a hs).2.2 x;show x∈a::gV a r↔_;simp only[List.mem_cons];exact h
 refine qG _ _ ?_ s1 λx=>by rw[hm x,s2 x];exact hp.mem_iff
 cases l' with
 | nil=>exact List.Pairwise.nil
 | cons a r=>
  obtain⟨h1,h2,_⟩:=mB r a hs;exact List.pairwise_cons.2 ⟨h2,h1⟩
theorem zb2:eY Tryz.prog 73 21 1 4:=eY.of (z:=.int .i32 0) Tryz.underlying73 (by kernel_rfl) rfl (by decide)
def zco (l:List Int):List Value:=l.map (Value.int .i32)
theorem rowAt_of (h:w.ownsRow 0 21 1 (.slice (some ⟨g,0,none⟩) n cap) n (zco l)):∃ r,dQ w g l.toArray r/\l.length=n/\n<=cap:=by
 obtain⟨h1,h2|⟨g',Y7,KO,hv,hb,hg,cd,QY,YL,xu⟩⟩:=h
 . cases h2.1
 cases hv
 refine⟨KO.toList.drop n,?_,by simpa[zco] using h1,cd⟩;unfold dQ;rw[hg];congr 2;apply Array.ext';show KO.toList=l.map (Value.int .i32)++KO.toList.drop n;rw[Nat.mul_one] at xu;rw[show l.map (Value.int .i32)=KO.toList.take n from xu.symm,List.take_append_drop]
def Wid (w:World):Prop:=∀ (j:Nat) (u:Value),(zco bX)[j]?=some u->w.cell? ⟨3,j,none⟩=some u
theorem Wid.below (h:Wid w) (hb:Below B w w') (hB:mN<=B):Wid w':=λj u hu=>(aL hb ⟨3,j,none⟩ (by show 3<B;unfold mN at hB;omega)).trans (h j u hu)
theorem zcQ (ad:Addr) (m cap:Nat) (w:World):(binOp .eql 73 (.slice (some ad) m cap) (.slice none 0 0)).run Tryz.prog w=.ok (.bool false) w:=by kernel_rfl
theorem clone_any (ad:Addr) (m cap:Nat) (l:List Value) (w:World) (hm:0<m) (hl:l.length=m) (h1:∀ u∈l,u.oneCell'=true) (JW:m<=1000000) (hc:∀ (j:Nat) (u:Value),l[j]?=some u->w.cell? (ad.add j)=some u) (Hf:ad.block<w.heap.size):
 Calls Tryz.prog 82 #[.slice (some ad) m cap] w λe w'=>∃ v,e=.returned v/\w'.ownsRow 0 21 1 v m l/\(∀ g,v.ownBlock=some g->w.heap.size<=g)/\Below w.heap.size w w':=by
 have HC:=zh hc;have HL:=zh hl;have H1:=zh h1;clear hc hl h1;have heq:=zcQ ad m cap;go_enter Tryz.func82,Tryz.ntmps82;have hB:=(zBr w.heap.size w).alloc (zR _) (.cells #[] 21);have Xv:(w.alloc (.cells #[] 21)).ownsRow 0 21 1 (.slice (some ⟨w.heap.size,0,none⟩) 0 0) 0 []:=
  ⟨rfl,.inr ⟨w.heap.size,0,#[],rfl,zZ _,by rw[aN,zP rfl],zR _,by decide,rfl,rfl⟩⟩
 have x8:∀ (j:Nat) (u:Value),l[j]?=some u->(w.alloc (.cells #[] 21)).cell? (ad.add j)=some u:=λj u hu=>(aL hB (ad.add j) (by unfold Addr.add;split<;>exact Hf)).trans (HC.o j u hu);have Uc:=zh (zAi hB (zAi Xv x8));clear hB Xv x8
 go_wp2_with (at_builtin;refine bK _ rfl _ _ rfl zb2 _ _ _ rfl (by exact Uc.o.2.1) ad m cap l rfl (by rw[Nat.mul_one];exact HL.o) Uc.o.2.2 H1.o hm (by omega) (by decide) ?_;intro v1 w1 qg Qq YB;obtain⟨gz,cz,rfl⟩:=(show ∃ g c,v1=.slice (some ⟨g,0,none⟩) (0+m) c from by rcases bD qg with⟨_,h0⟩|⟨g,c,e,_⟩;omega;exact⟨g,c,e⟩));go_ret;rw[Nat.zero_add] at qg
 have Xn:(Value.slice (some ⟨gz,0,none⟩) m cz).ownBlock=(Value.slice (some ⟨w.heap.size,0,none⟩) 0 0).ownBlock\/(Value.slice (some ⟨gz,0,none⟩) m cz).ownBlock=some (w.alloc (.cells #[] 21)).heap.size:=YB;have YD:(w.alloc (.cells #[] 21)).grownBy w1 (Value.slice (some ⟨w.heap.size,0,none⟩) 0 0).ownBlock:=Qq;refine⟨_,rfl,by simpa using qg,λg hg=> ?_,gE (B:=w.heap.size) Uc.o.1 YD (by simp) (λg hg=>by cases hg;exact zR _)⟩;have QE:(Value.slice (some ⟨gz,0,none⟩) m cz).ownBlock=some g:=hg
 rcases Xn with e|e
 . rw[QE] at e;cases e;exact zR _
 rw[QE] at e;cases e;simp
theorem addr_add (b j:Nat):(⟨b,0,none⟩:Addr).add j=⟨b,j,none⟩:=by by_cases h:j=0<;>simp[Addr.add,h]
def gA (c:List (Int×Int)):Prop:=∀ r∈c,0<=r.1/\r.1<=1114111/\0<=r.2/\r.2<=1114111
structure CuSt (w:World) (bl:Nat) (L:gK) (l:List Int) (g cap:Nat) (wr:World):Prop where
 row:wr.ownsRow 0 21 1 (.slice (some ⟨g,0,none⟩) l.length cap) l.length (zco l)
 new:w.heap.size<=g
 below:Below w.heap.size w wr
theorem CuSt.alloc {bl:Nat} {L:gK} (h:CuSt w bl L l g cap wr) (o:Obj):CuSt w bl L l g cap (wr.alloc o):=⟨h.row.alloc o,h.new,h.below.alloc h.below.size o⟩
theorem CuSt.push {bl:Nat} {L:gK} (h:CuSt w bl L l g cap wr) (x:Int) (ob:Obj) (v':Value) (Hb:w2.ownsRow 0 21 1 v' (l.length+1) (zco l++[.int .i32 x]))
 (hg:(wr.alloc ob).grownBy w2 (some g)) (Hz:v'.ownBlock=some g\/v'.ownBlock=some (wr.alloc ob).heap.size):∃ g' Y7,v'=.slice (some ⟨g',0,none⟩) (l++[x]).length Y7/\CuSt w bl L (l++[x]) g' Y7 w2:=by
 have hB:Below w.heap.size w (wr.alloc ob):=h.below.alloc h.below.size ob
 rcases bD Hb with⟨_,h0⟩|⟨g',Y7,e,_⟩
 . omega
 subst e
 have el:(l++[x]).length=l.length+1:=by simp
 refine⟨g',Y7,by rw[el],⟨by rw[el];simpa[zco] using Hb,?_,gE (v:=.slice (some ⟨g,0,none⟩) 0 0) hB hg (by have:=h.below.size;simp;omega) (λg2 qf=>by cases qf;exact h.new)⟩⟩
 rcases Hz with e|e
 . cases e;exact h.new
 have e2:g'=(wr.alloc ob).heap.size:=by cases e;rfl
 have:=h.below.size;rw[e2];simp;omega
theorem zeI (x:Int):∀ (l:List Int),(insU x l).length<=l.length+1
 | []=>by simp[insU]
 | y::l=>by
  have:=zeI x l;unfold insU;split
  . simp
  split
  . simp
  simp;omega
theorem za9:∀ (l:List Int),(uW l).length<=l.length
 | []=>by simp[uW]
 | x::l=>by
  have h1:=za9 l;have h2:=zeI x (uW l);show (insU x (uW l)).length<=_;simp;omega
def CutsO (L:gK) (w:World) (e:Ending) (w':World):Prop:=∃ b cap r,e=.returned (.slice (some ⟨b,0,none⟩) (bB L.cL).length cap)/\dQ w' b (bB L.cL).toArray r/\w.heap.size<=b/\Below w.heap.size w w'/\(bB L.cL).length<=cap
theorem zbV (a b:List (Int×Int)):bN (a++b)=bN a++bN b:=by simp[bN]
theorem zbf (l:List (Int×Int)) (r:Int×Int):bN (l++[r])=bN l++if r.2<1114111 then[r.1,r.2+1] else[r.1]:=by simp[bN]
theorem cuts_any (L:gK) (bl:Nat) (w:World) (hl:rA w bl L) (vn:0<L.cL.length) (hr:∀ c∈L.cL,gA c) (hW:Wid w) (hG:mN<=w.heap.size) (hn:(eJ L.cL).length<1000000):
 Calls Tryz.prog 60 #[aK bl] w (CutsO L w):=by
 obtain⟨vc,vf,vr,qw,h1,h2,h3,h4,h5⟩:=hl;have HR:=zh hr;have HW:=zh hW;have HC:=zh (zAi h1 (zAi h2 h3));have SQ:3<w.heap.size:=by unfold mN at hG;omega
 have HN:=zh hn;clear h1 h2 h3 h4 h5 hr hW hG hn;go_enter Tryz.func60,Tryz.ntmps60;go_upto_region 2 with (go_at_call 82;refine (clone_any ⟨3,0,none⟩ 6 6 (zco bX) _ (by decide) rfl (by intro u hu;simp[zco,bX] at hu;rcases hu with rfl|rfl|rfl|rfl|rfl|rfl<;>rfl) (by decide) (λj u hu=>by rw[addr_add];exact HW.o j u hu) SQ).mono ?_;rintro e w1 ⟨v,rfl,qg,tj,Hk⟩;obtain⟨g1,cap1,rfl⟩:=bV qg)
 have qx:CuSt w bl L bX g1 cap1 w1:=⟨qg,tj g1 rfl,Hk⟩;have mv:=zh qx;have Xs:w1.heap[bl]?=some (.cells #[vc,vf,vr] 132 (0,0))/\w1.ownsRow 0 200 1 vc L.cL.length qw:=⟨(Hk.block bl (aA HC.o.1)).trans HC.o.1,aZ HC.o.2.1 Hk⟩;have c1:=aB _ _ 0 _ _ _ Xs.1;simp only[zLa,zLb] at c1;obtain⟨gc,ka,rfl⟩:∃ g cap,vc=.slice (some ⟨g,0,none⟩) L.cL.length cap:=by
  rcases bD Xs.2 with⟨_,h0⟩|⟨g,cap,e,_⟩
  . omega
  exact⟨g,cap,e⟩
 have gd:(L.cL.length:Int)<=9223372036854775807:=by
  have:L.cL.length<=maxLen:=by rcases Xs.2.2 with⟨_,h⟩|⟨_,_,_,_,_,_,h,h',_⟩<;>omega
  unfold maxLen at this;omega
 clear Xs qx qg tj Hk SQ;go_wp2_with (fail);go_loopw [3,15] (λs3 s15 wr=>∃ (i g cap:Nat),s15=.int .i64 i/\i<=L.cL.length/\s3=.slice (some ⟨g,0,none⟩) (bX++(L.cL.take i).flatMap bN).length cap/\CuSt w bl L (bX++(L.cL.take i).flatMap bN) g cap wr) (λ_ s15 _=>L.cL.length-(RowKit.intOf s15).toNat)
 case atStart=>exact⟨0,g1,cap1,rfl,by omega,rfl,by simpa using mv.o⟩
 case round=>
  obtain⟨i,g,cap,rfl,hi,rfl,hS⟩:=hrel;have HS:=zh hS;clear hS;by_cases Hf:i<L.cL.length
  . have hz:(i:Int)<(L.cL.length:Int):=by omega
    obtain⟨c,hc⟩:=zG L.cL i Hf;obtain⟨cv,Jh,yp⟩:=HC.o.2.2 i c hc;have NW:wr.ownsRow 0 200 1 (.slice (some ⟨gc,0,none⟩) L.cL.length ka) L.cL.length qw:=aZ HC.o.2.1 ⟨HS.o.below.os,HS.o.below.tape,HS.o.below.output,HS.o.below.size,HS.o.below.block⟩;have XA:wr.cell? ⟨gc,i,none⟩=some cv:=aE NW _ _ Jh;have gm:=HR.o c (zM hc);have Kt:L.cL.take (i+1)=L.cL.take i++[c]:=by rw[List.take_add_one,hc];rfl
    have Xf:=zW i (by omega);have NK:(eJ L.cL).length=(bX++(L.cL.take i).flatMap bN).length+(bN c).length+((L.cL.drop (i+1)).flatMap bN).length:=by
     have e:L.cL=L.cL.take i++[c]++L.cL.drop (i+1):=by rw[<-Kt,List.take_append_drop]
     conv=>lhs;rw[e]
     simp[eJ,Nat.add_assoc]
    have V7:=zh Kt;have js:=zh NK;have YJ:=zh (zAi yp gm);have JA:=bD yp;clear yp gm Kt NK NW Jh hc
    rcases JA with⟨rfl,Yj⟩|⟨gl,capl,rfl,hcapl,Xr⟩
    . have x8:c=[]:=List.eq_nil_of_length_eq_zero Yj
      subst x8;go_wp2_with (fail);refine wp_loop_rounds 1 ?_;rw[rounds_succ];go_wp2_with (fail);go_roundw
      case rel=>
       refine⟨i+1,g,cap,by go_num,by omega,?_,?_⟩
       . rw[V7.o];simp[bN]
       . rw[V7.o];simpa[bN] using HS.o
      case measure=>(simp[zI]<;>omega)
    have oo:(c.length:Int)<=9223372036854775807:=by
     have:c.length<=maxLen:=by rcases YJ.o.1.2 with⟨_,h⟩|⟨_,_,_,_,_,_,h,h',_⟩<;>omega
     unfold maxLen at this;omega
    go_wp2_with (fail);go_loopw [3,21] (λs3 K7 wr2=>∃ (j g cap:Nat),K7=.int .i64 j/\j<=c.length/\s3=.slice (some ⟨g,0,none⟩) (bX++(L.cL.take i).flatMap bN++bN (c.take j)).length cap/\CuSt w bl L (bX++(L.cL.take i).flatMap bN++bN (c.take j)) g cap wr2) (λ_ K7 _=>c.length-(RowKit.intOf K7).toNat)
    case atStart=>exact⟨0,g,cap,rfl,by omega,by simp[bN],by simpa[bN] using HS.o⟩
    case round=>
     obtain⟨j,g2,Vr,rfl,hj,rfl,QD⟩:=hrel;have Qs:=zh QD;clear QD;by_cases A8:j<c.length
     . have Is:(j:Int)<(c.length:Int):=by omega
       obtain⟨x,hx⟩:=zG c j A8;obtain⟨f0,f1⟩:=zap c j x hx;have Qz:fN wr (.slice (some ⟨gl,0,none⟩) c.length capl) c:=aZ YJ.o.1 ⟨Qs.o.below.os,Qs.o.below.tape,Qs.o.below.output,Qs.o.below.size,Qs.o.below.block⟩;have q0:=aE Qz _ _ f0;have q1:=aE Qz _ _ f1;have Io:=YJ.o.2 x (zM hx);obtain⟨x1,x2⟩:=x;simp only at q0 q1 Io;have wt:bN (c.take (j+1))=bN (c.take j)++if x2<1114111 then[x1,x2+1] else[x1]:=by
        rw[List.take_add_one,hx];exact zbf _ _
       have Xo:(bX++(L.cL.take i).flatMap bN++bN (c.take j)).length+2<=1000000000:=by
        have h1:=js.o;have h2:=HN.o;have h3:(bN (c.take j)).length<=(bN c).length:=by
         have e2:=zbV (c.take j) (c.drop j);rw[List.take_append_drop] at e2;rw[e2,zLn];omega
        rw[zLn];omega
       have Cw:=zW j (by omega);have Rx:=zh wt;generalize hY:bX++(L.cL.take i).flatMap bN++bN (c.take j)=Y at*;have HY:=zh hY;clear hY wt f0 f1 Qz hx;go_upto_region 8 with (fail)
       have X2:=Qs.o.alloc (.cells #[.int .i32 x1,.int .i32 x2] 210);have XP:(wr.alloc (.cells #[.int .i32 x1,.int .i32 x2] 210)).heap[wr.heap.size]?=some (.cells #[.int .i32 x1,.int .i32 x2] 210 (0,0)):=by rw[aN,zP rfl]
       have Dm:(Value.slice (some ⟨g2,0,none⟩) Y.length Vr).ownBlock≠some wr.heap.size:=λe=>by
        have h:=(Qs.o.row.lt g2 rfl).2;have e2:g2=wr.heap.size:=by simpa[Value.ownBlock] using e
        omega
       obtain⟨n7,GT⟩:=zE (wr.heap.size);rw[<-GT] at XP Dm ⊢;clear GT;generalize wr.alloc (.cells #[.int .i32 x1,.int .i32 x2] 210)=w7 at*;have QC:=zh X2;have Yo:=zh (zAi XP Dm);have r0:=aB _ _ 0 _ _ _ XP;simp only[zLa,zLb] at r0;clear X2 XP Dm q0 q1
       go_upto_region 9 with (at_builtin;refine dI rfl zb2 rfl (by exact QC.o.row.alloc _) [.int .i32 x1] (by omega) ?_;intro v8 w8 Xw XT AE;obtain⟨k0,k1,k2⟩:=jV (off:=1) Yo.o.1 Yo.o.2 XT;simp only[zLa,zLc,zLb] at k0;obtain⟨g8,cap8,wv,ML⟩:=QC.o.push x1 _ v8 Xw XT AE;rw[wv])
       have Rr:=zh ML;have sy:(Y++[x1]).length=Y.length+1:=by simp
       have Wv:=zh (show w8.ownsRow 0 21 1 (.slice (some ⟨g8,0,none⟩) (Y.length+1) cap8) (Y.length+1) (zco (Y++[x1])) by have h:=ML.row;rw[sy] at h;exact h);clear ML Xw XT AE wv r0;by_cases Um:x2<1114111
       . have e3:IntKind.i32.wrap (x2+1)=x2+1:=IntWalk.i32_in _ (by omega)
         go_upto_region 11 with (at_builtin;refine dI rfl zb2 rfl (by exact Wv.o.alloc _) [.int .i32 (x2+1)] (by omega) ?_;intro v9 w9 qp yh yg;rw[<-sy] at qp;obtain⟨g9,yk,tE,Ea⟩:=Rr.o.push (x2+1) _ v9 qp yh yg;rw[tE])
         have BA:=zh Ea;clear Ea qp yh yg tE k0 k1 k2 e3;go_wp2_with (fail);go_roundw
         case rel=>
          have Hm:Y++[x1]++[x2+1]=bX++(L.cL.take i).flatMap bN++bN (c.take (j+1)):=by
           rw[Rx.o,zP Um,<-HY.o];simp only[List.append_assoc];rfl
          exact⟨j+1,g9,yk,by go_num,by omega,by rw[<-Hm];simp,by rw[<-Hm];exact BA.o⟩
         case measure=>(simp[zI]<;>omega)
       go_wp2_with (fail)
       go_roundw
       case rel=>
        have Hm:Y++[x1]=bX++(L.cL.take i).flatMap bN++bN (c.take (j+1)):=by
         rw[Rx.o,zN Um,<-HY.o];simp only[List.append_assoc]
        exact⟨j+1,g8,cap8,by go_num,by omega,by rw[<-Hm];simp,by rw[<-Hm];exact Rr.o⟩
       case measure=>(simp[zI]<;>omega)
     have Is:¬ (j:Int)<(c.length:Int):=by omega
     have Yb:j=c.length:=by omega
     subst Yb;go_wp2_with (fail);go_roundw
     case rel=>
      have Hm:bX++(L.cL.take i).flatMap bN++bN (c.take c.length)=bX++(L.cL.take (i+1)).flatMap bN:=by
       rw[V7.o,List.take_length];simp
      exact⟨i+1,g2,Vr,by go_num,by omega,by rw[<-Hm],by rw[<-Hm];exact Qs.o⟩
     case measure=>(simp[zI]<;>omega)
  have hz:¬ (i:Int)<(L.cL.length:Int):=by omega
  have xm:i=L.cL.length:=by omega
  subst xm;have QN:bX++(L.cL.take L.cL.length).flatMap bN=eJ L.cL:=by rw[List.take_length];rfl
  have Hb:=HS.o.row;rw[QN] at Hb ⊢;obtain⟨r,hR,Ko,Xp⟩:=rowAt_of Hb;have Ww:=zh hR;have EJ:=zh Xp;clear Hb hR;go_wp2_with (fail);have Qc:(eJ L.cL).toArray.size=(eJ L.cL).length:=by simp
  have h6:6<=(eJ L.cL).length:=by simp[eJ,bX]
  refine (sort_any g (eJ L.cL).length cap r (eJ L.cL).toArray wr Ww.o Qc (by omega) HN.o).mono ?_;rintro e w2 ⟨rfl,d',tk,U0,yl,QL,qf⟩;have H2:=zh (zAi tk (zAi U0 (zAi yl (zAi QL qf))));clear tk U0 yl QL qf Qc;go_wp2_with (fail);refine (zdK g (eJ L.cL).length cap r d' w2 H2.o.2.2.2.1 H2.o.2.2.1 (by omega) EJ.o HN.o).mono ?_;rintro e w3 ⟨d3,r3,rfl,VW,PW,Q4⟩;have H3:=zh (zAi VW (zAi PW Q4));clear VW PW Q4;go_wp2_with (fail);go_ret
  obtain⟨tk,U0,yl,QL,qf⟩:=H2.o;obtain⟨VW,PW,Q4⟩:=H3.o;have hp:d'.toList.Perm (eJ L.cL):=by
   have h:=tk.2.2;rw[Array.extract_eq_self_of_le (by omega),Array.extract_eq_self_of_le (by simp)] at h;simpa using h
  have hs:d'.toList.Pairwise (· <= ·):=by
   rw[List.pairwise_iff_getElem];intro a b ha hb Xz;have h:=U0 a b (zZ _) Xz (by rw[<-yl];simpa using hb);rw[getElem!_pos d' a (by simpa using ha),getElem!_pos d' b (by simpa using hb)] at h;simp only[Sort.ltInt,decide_eq_false_iff_not,Int.not_lt] at h;simpa using h
  have e3:d3.toList=bB L.cL:=by rw[VW,comp_sort hp hs];rfl
  have e4:d3=(bB L.cL).toArray:=by rw[<-e3]
  subst e4;refine⟨g,cap,r3,by simp,PW,HS.o.new,?_,zT (za9 _) EJ.o⟩;exact gE (v:=.slice (some ⟨g,0,none⟩) 0 0) (gE (v:=.slice (some ⟨g,0,none⟩) 0 0) HS.o.below qf HS.o.below.size (λg2 h=>by cases h;exact HS.o.new)) Q4 (zT HS.o.below.size qf.size) (λg2 h=>by cases h;exact HS.o.new)
theorem add_add (s:aW) (n:Nat):(s.add n).add n=s.add n:=by
 unfold aW.add;split
 . simp only[Nat.or_assoc,Nat.or_self]
 simp only[Nat.or_assoc,Nat.or_self]
theorem qP (c:Int):∀ (l:List (List (Int×Int))) (k:List (Int×Int)) (n:Nat) (s:aW),dD c (l++[k]) n s=if eB k c then (dD c l n s).add (n+l.length) else dD c l n s
 | [],k,n,s=>by simp[dD]
 | a::l,k,n,s=>by
  show dD c (l++[k]) (n+1) _=_;rw[qP c l k (n+1)];simp only[dD,List.length_cons,show n+1+l.length=n+(l.length+1) by omega]
theorem uJ (c:Int):∀ (l:List (List (Int×Int))) (n:Nat) (s:aW),s.Ok->n+l.length<=128->(dD c l n s).Ok
 | [],n,s,h,_=>h
 | a::l,n,s,h,hn=>by
  rw[List.length_cons] at hn;refine uJ c l (n+1) _ ?_ (by omega);split
  . exact zep h (by omega)
  exact h
theorem zc1 (k:List (Int×Int)) (r:Int×Int) (c:Int):eB (k++[r]) c=(eB k c||(cH c&&(decide (r.1<=c)&&decide (c<=r.2)))):=by
 simp only[eB,List.any_append,List.any_cons,List.any_nil,Bool.or_false];cases cH c<;>simp
theorem valid_eq (c:Int) (w:World):Calls Tryz.prog 85 #[.int .i32 c] w λe w'=>e=.returned (.bool (cH c))/\w'=w:=by
 have h:=Tryz.utf8_ValidRune c w;have e:Lib.validRune c=cH c:=by
  unfold Lib.validRune cH;rw[Bool.eq_iff_iff];simp
 rwa [e] at h
structure MtSt (w:World) (s:aW) (wr:World):Prop where
 aQ:jE wr w.heap.size s
 ok:s.Ok
 below:Below w.heap.size w wr
theorem MtSt.alloc (h:MtSt w s wr) (o:Obj):MtSt w s (wr.alloc o):=
 ⟨by unfold jE;rw[aN,zN (by have:=aA h.aQ;omega)];exact h.aQ,h.ok,h.below.alloc h.below.size o⟩
theorem MtSt.add (h:MtSt w s wr) (hn:n<128) (h1:jE w2 w.heap.size (s.add n)) (h2:wr.grownBy w2 (some w.heap.size)):MtSt w (s.add n) w2:=
 ⟨h1,zep h.ok hn,gE (v:=.slice (some ⟨w.heap.size,0,none⟩) 0 0) h.below h2 h.below.size (λg hg=>by cases hg;exact zR _)⟩
theorem zd0 (L:gK) (bl:Nat) (c:Int) (w:World) (hl:rA w bl L) (vn:0<L.cL.length) (hn:L.cL.length<=128):
 Calls Tryz.prog 61 #[aK bl,.int .i32 c] w λe w'=>e=.returned (nY (bG L.cL c))/\(bG L.cL c).Ok/\Below w.heap.size w w':=by
 obtain⟨vc,vf,vr,qw,h1,h2,h3,h4,h5⟩:=hl;have HC:=zh (zAi h1 (zAi h2 h3));have Hl:MtSt w (dD c (L.cL.take 0) 0 (0,0)) (w.alloc (.cells #[.int .u64 0,.int .u64 0] 147)):=
  ⟨by unfold jE;rw[aN,zP rfl];rfl,show aW.Ok (0,0) from⟨by decide,by decide⟩,(zBr _ w).alloc (zR _) _⟩
 have Hq:=zh Hl;have c1:=aB _ _ 0 _ _ _ h1;have l1:=aA h1;simp only[zLa,zLb] at c1;obtain⟨gc,ka,rfl⟩:∃ g cap,vc=.slice (some ⟨g,0,none⟩) L.cL.length cap:=by
  rcases bD h2 with⟨_,h0⟩|⟨g,cap,e,_⟩
  . omega
  exact⟨g,cap,e⟩
 clear h1 h2 h3 h4 h5 Hl;go_enter Tryz.func61,Tryz.ntmps61;go_wp2_with (fail);obtain⟨b4,Qa⟩:=zE (w.heap.size);rw[<-Qa];have Yn:=zh Qa;clear Qa;go_loopw [14] (λs14 wr=>∃ (i:Nat),s14=.int .i64 i/\i<=L.cL.length/\MtSt w (dD c (L.cL.take i) 0 (0,0)) wr) (λs14 _=>L.cL.length-(RowKit.intOf s14).toNat)
 case atStart=>exact⟨0,rfl,by omega,Hq.o⟩
 case round=>
  obtain⟨i,rfl,hi,hS⟩:=hrel;have HS:=zh hS;clear hS;by_cases Hf:i<L.cL.length
  . have hz:(i:Int)<(L.cL.length:Int):=by omega
    obtain⟨k,hk⟩:=zG L.cL i Hf;obtain⟨cv,Jh,yp⟩:=HC.o.2.2 i k hk;have hB:=HS.o.below;have NW:wr.ownsRow 0 200 1 (.slice (some ⟨gc,0,none⟩) L.cL.length ka) L.cL.length qw:=aZ HC.o.2.1 ⟨hB.os,hB.tape,hB.output,hB.size,hB.block⟩;have XA:wr.cell? ⟨gc,i,none⟩=some cv:=aE NW _ _ Jh;have Kt:dD c (L.cL.take (i+1)) 0 (0,0)=if eB k c then (dD c (L.cL.take i) 0 (0,0)).add i else dD c (L.cL.take i) 0 (0,0):=by
     rw[List.take_add_one,hk,show (some k).toList=[k] from rfl,qP,List.length_take,Nat.zero_add,Nat.min_eq_left (by omega)]
    have Xf:=zW i (by omega);have V7:=zh Kt;have YJ:=zh yp;have JA:=bD yp;have On:=HS.o.ok;clear yp Kt NW Jh hk hB On;generalize dD c (L.cL.take i) 0 (0,0)=S at*
    rcases JA with⟨rfl,Yj⟩|⟨gl,capl,rfl,hcapl,Xr⟩
    . have x8:k=[]:=List.eq_nil_of_length_eq_zero Yj
      subst x8;go_wp2_with (fail);refine wp_loop_rounds 1 ?_;rw[rounds_succ];go_wp2_with (fail);go_roundw
      case rel=>exact⟨i+1,by go_num,by omega,by rw[V7.o];simpa[eB] using HS.o⟩
      case measure=>(simp[zI]<;>omega)
    have oo:(k.length:Int)<=9223372036854775807:=by
     have:k.length<=maxLen:=by rcases YJ.o.2 with⟨_,h⟩|⟨_,_,_,_,_,_,h,h',_⟩<;>omega
     unfold maxLen at this;omega
    go_wp2_with (fail);go_loopw [21] (λK7 wr2=>∃ (j:Nat),K7=.int .i64 j/\j<=k.length/\MtSt w (if eB (k.take j) c then S.add i else S) wr2) (λK7 _=>k.length-(RowKit.intOf K7).toNat)
    case atStart=>exact⟨0,rfl,by omega,by simpa[eB] using HS.o⟩
    case round=>
     obtain⟨j,rfl,hj,QD⟩:=hrel;have Qs:=zh QD;clear QD;by_cases A8:j<k.length
     . have Is:(j:Int)<(k.length:Int):=by omega
       obtain⟨x,hx⟩:=zG k j A8;obtain⟨f0,f1⟩:=zap k j x hx;have hB:=Qs.o.below;have Qz:fN wr (.slice (some ⟨gl,0,none⟩) k.length capl) k:=aZ YJ.o ⟨hB.os,hB.tape,hB.output,hB.size,hB.block⟩;have q0:=aE Qz _ _ f0;have q1:=aE Qz _ _ f1;have Xh:eB (k.take (j+1)) c=(eB (k.take j) c||(cH c&&(decide (x.1<=c)&&decide (c<=x.2)))):=by
        rw[List.take_add_one,hx];exact zc1 _ _ _
       have Cw:=zW j (by omega);obtain⟨x1,x2⟩:=x;simp only at q0 q1 Xh;have tM:=zh Xh;clear Xh f0 f1 Qz hx hB;go_upto_region 7 with (fail)
       have X2:=Qs.o.alloc (.cells #[.int .i32 x1,.int .i32 x2] 210);have XP:(wr.alloc (.cells #[.int .i32 x1,.int .i32 x2] 210)).heap[wr.heap.size]?=some (.cells #[.int .i32 x1,.int .i32 x2] 210 (0,0)):=by rw[aN,zP rfl]
       obtain⟨n7,GT⟩:=zE (wr.heap.size);rw[<-GT] at XP ⊢;clear GT;generalize wr.alloc (.cells #[.int .i32 x1,.int .i32 x2] 210)=w7 at*;have QC:=zh X2;have r0:=aB _ _ 0 _ _ _ XP;have r1:=aB _ _ 1 _ _ _ XP;have l7:=aA XP;simp only[zLa,zLc,zLb] at r0 r1;clear X2 XP q0 q1;have Xd:=λw=>valid_eq c w;by_cases hh:x1<=c/\c<=x2/\cH c=true
       . have d8:=hh.1
         have TH:=hh.2.1;have HV:=zh hh.2.2;have Jo:(if eB (k.take (j+1)) c then S.add i else S)=(if eB (k.take j) c then S.add i else S).add i:=by
          rw[tM.o,HV.o];simp only[d8,TH,decide_true,Bool.and_true,Bool.or_true,if_true];split
          . rw[add_add]
          rfl
         have HM:=zh Jo;clear hh Jo;go_wp2_with (first|(go_at_call 85;refine (Xd _).mono ?_;rintro e w8 ⟨rfl,rfl⟩;rw[HV.o])|(go_at_call 62;refine (yN b4 i _ _ (by rw[Yn.o];exact QC.o.aQ) QC.o.ok (by omega)).mono ?_;rintro e w9 ⟨rfl,tz,La⟩));go_roundw
         case rel=>
          refine⟨j+1,by go_num,by omega,?_⟩;rw[HM.o];rw[Yn.o] at tz La;exact QC.o.add (by omega) tz La
         case measure=>(simp[zI]<;>omega)
       have Jo:(if eB (k.take (j+1)) c then S.add i else S)=if eB (k.take j) c then S.add i else S:=by
        have e:(cH c&&(decide (x1<=c)&&decide (c<=x2)))=false:=by
         rw[Bool.eq_false_iff];intro h;simp only[Bool.and_eq_true,decide_eq_true_eq] at h;exact hh ⟨h.2.1,h.2.2,h.1⟩
        rw[tM.o,e,Bool.or_false]
       have HM:=zh Jo;clear Jo
       rcases Int.lt_or_le c x1 with d|d
       . clear hh
         go_wp2_with (fail);go_roundw
         case rel=>exact⟨j+1,by go_num,by omega,by rw[HM.o];exact QC.o⟩
         case measure=>(simp[zI]<;>omega)
       rcases Int.lt_or_le x2 c with d2|d2
       . clear hh
         go_wp2_with (fail);go_roundw
         case rel=>exact⟨j+1,by go_num,by omega,by rw[HM.o];exact QC.o⟩
         case measure=>(simp[zI]<;>omega)
       have hv:cH c=false:=by
        rw[Bool.eq_false_iff];exact λh=>hh ⟨d,d2,h⟩
       have HV:=zh hv;clear hv hh;go_wp2_with (first|(go_at_call 85;refine (Xd _).mono ?_;rintro e w8 ⟨rfl,rfl⟩;rw[HV.o])|fail);go_roundw
       case rel=>exact⟨j+1,by go_num,by omega,by rw[HM.o];exact QC.o⟩
       case measure=>(simp[zI]<;>omega)
     have Is:¬ (j:Int)<(k.length:Int):=by omega
     have Yb:j=k.length:=by omega
     subst Yb;go_wp2_with (fail);go_roundw
     case rel=>exact⟨i+1,by go_num,by omega,by rw[V7.o];simpa[List.take_length] using Qs.o⟩
     case measure=>(simp[zI]<;>omega)
  have hz:¬ (i:Int)<(L.cL.length:Int):=by omega
  have xm:i=L.cL.length:=by omega
  subst xm;have hS:=HS.o;rw[List.take_length] at hS;change MtSt w (bG L.cL c) wr at hS;have BA:=zh hS;obtain⟨s0,s1⟩:=hS.aQ.cells;have f0:=aM _ _ 0 _ _ hS.aQ;have f1:=aM _ _ 1 _ _ hS.aQ;have l4:=aA hS.aQ;rw[<-Yn.o] at s0 s1 f0 f1 l4;clear hS;go_wp2_with (fail);have Ee:jE ((wr.setCell ⟨b4,0,none⟩ (.int .u64 (bG L.cL c).1)).setCell ⟨b4,1,none⟩ (.int .u64 (bG L.cL c).2)) b4 (bG L.cL c):=by
   unfold jE;rw[aC _ b4 1 _ _ _ _ (aC wr b4 0 _ _ _ _ (by rw[Yn.o];exact BA.o.aQ))];rfl
  have Hz:Below w.heap.size w ((wr.setCell ⟨b4,0,none⟩ (.int .u64 (bG L.cL c).1)).setCell ⟨b4,1,none⟩ (.int .u64 (bG L.cL c).2)):=
   (BA.o.below.setCell (p:=(⟨b4,0,none⟩:Addr)) (by rw[Yn.o];exact zR _) _).setCell (p:=(⟨b4,1,none⟩:Addr)) (by rw[Yn.o];exact zR _) _
  generalize (wr.setCell ⟨b4,0,none⟩ (.int .u64 (bG L.cL c).1)).setCell ⟨b4,1,none⟩ (.int .u64 (bG L.cL c).2)=w9 at*;obtain⟨y0,y1⟩:=Ee.cells;simp[bodyPost,results,Tryz.results61,go_sem,y0,y1];exact⟨rfl,BA.o.ok,Hz⟩
abbrev walkV (sa ta fa ra wa:Nat):Value:=.func (Fn.func 74) #[] #[aK sa,aK ta,aK fa,aK ra,aK wa]
def dE (l:List Int):List Value:=l.map (Value.int .i64)
structure BAt (B:Nat) (w:World) (sa ta fa ra wa gs gf bt n:Nat) (b:jI):Prop where
 hs:w.heap[sa]?=some (.cells #[.slice (some ⟨gs,0,none⟩) n n] 39 (0,0))
 ht:w.heap[ta]?=some (.cells #[aK bt] 68 (0,0))
 hf:w.heap[fa]?=some (.cells #[.slice (some ⟨gf,0,none⟩) n n] 39 (0,0))
 hr:w.heap[ra]?=some (.cells #[.bool b.round] 4 (0,0))
 hw:w.heap[wa]?=some (.cells #[walkV sa ta fa ra wa] 153 (0,0))
 rs:w.ownsRow 0 3 1 (.slice (some ⟨gs,0,none⟩) n n) n (dE b.state)
 rf:w.ownsRow 0 3 1 (.slice (some ⟨gf,0,none⟩) n n) n (dE b.far)
 n1:gs≠sa/\gs≠ta/\gs≠fa/\gs≠ra/\gs≠wa/\gs≠gf
 n2:gf≠sa/\gf≠ta/\gf≠fa/\gf≠ra/\gf≠wa
 n3:ra≠sa/\ra≠ta/\ra≠fa/\ra≠wa
 lb:B<=gs/\B<=gf/\B<=ra
section
variable {B:Nat} {w:World} {sa ta fa ra wa gs gf bt n:Nat} {b:jI}
theorem BAt.setState (h:BAt B w sa ta fa ra wa gs gf bt n b) (i:Nat) (x:Int):BAt B (w.setCell ⟨gs,i,none⟩ (.int .i64 x)) sa ta fa ra wa gs gf bt n {b with state:=b.state.set i x}:=by
 obtain⟨a1,a2,a3,a4,a5,a6⟩:=h.n1;refine⟨(aG _ _ _ _ (Ne.symm a1)).trans h.hs,(aG _ _ _ _ (Ne.symm a2)).trans h.ht,(aG _ _ _ _ (Ne.symm a3)).trans h.hf,(aG _ _ _ _ (Ne.symm a4)).trans h.hr,(aG _ _ _ _ (Ne.symm a5)).trans h.hw,?_,iN _ h.rf (by simpa[Value.ownBlock] using Ne.symm a6),h.n1,h.n2,h.n3,h.lb⟩;have:=(h.rs.stored i (.int .i64 x)).1;unfold dE at*;rw[List.map_set];exact this
theorem BAt.setFar (h:BAt B w sa ta fa ra wa gs gf bt n b) (i:Nat) (x:Int):BAt B (w.setCell ⟨gf,i,none⟩ (.int .i64 x)) sa ta fa ra wa gs gf bt n {b with far:=b.far.set i x}:=by
 obtain⟨a1,a2,a3,a4,a5⟩:=h.n2;have a6:=h.n1.2.2.2.2.2;refine⟨(aG _ _ _ _ (Ne.symm a1)).trans h.hs,(aG _ _ _ _ (Ne.symm a2)).trans h.ht,(aG _ _ _ _ (Ne.symm a3)).trans h.hf,(aG _ _ _ _ (Ne.symm a4)).trans h.hr,(aG _ _ _ _ (Ne.symm a5)).trans h.hw,iN _ h.rs (by simpa[Value.ownBlock] using a6),?_,h.n1,h.n2,h.n3,h.lb⟩;have:=(h.rf.stored i (.int .i64 x)).1;unfold dE at*;rw[List.map_set];exact this
theorem BAt.setRound (h:BAt B w sa ta fa ra wa gs gf bt n b) (x:Bool):BAt B (w.setCell ⟨ra,0,none⟩ (.bool x)) sa ta fa ra wa gs gf bt n {b with round:=x}:=by
 obtain⟨a1,a2,a3,a4⟩:=h.n3;refine⟨(aG _ _ _ _ (Ne.symm a1)).trans h.hs,(aG _ _ _ _ (Ne.symm a2)).trans h.ht,(aG _ _ _ _ (Ne.symm a3)).trans h.hf,?_,(aG _ _ _ _ (Ne.symm a4)).trans h.hw,iN _ h.rs (by simpa[Value.ownBlock] using h.n1.2.2.2.1),iN _ h.rf (by simpa[Value.ownBlock] using h.n2.2.2.2.1),h.n1,h.n2,h.n3,h.lb⟩;rw[aC w ra 0 _ _ _ _ h.hr];rfl
theorem BAt.drew (h:BAt B w sa ta fa ra wa gs gf bt n b):BAt B w.drew sa ta fa ra wa gs gf bt n b:=⟨h.hs,h.ht,h.hf,h.hr,h.hw,h.rs,h.rf,h.n1,h.n2,h.n3,h.lb⟩
end
theorem zfX (c:Int):Lib.runeLen c=fJ c:=by
 unfold Lib.runeLen fJ
 repeat' split
 all_goals first|rfl|(exfalso;omega)
theorem za7 (c:Int): -1<=fJ c/\fJ c<=4:=by
 unfold fJ
 repeat' split
 all_goals omega
def gI (b b2:jI):Prop:=b2.state.length=b.state.length/\b2.far.length=b.far.length/\∀ j,b.far.getD j 0<=b2.far.getD j 0
theorem gI.refl (b:jI):gI b b:=⟨rfl,rfl,λ_=>Int.le_refl _⟩
theorem gI.trans {a b c:jI} (h:gI a b) (k:gI b c):gI a c:=⟨k.1.trans h.1,k.2.1.trans h.2.1,λj=>Int.le_trans (h.2.2 j) (k.2.2 j)⟩
theorem gI.state (b:jI) (i:Nat) (x:Int):gI b {b with state:=b.state.set i x}:=⟨by simp,rfl,λ_=>Int.le_refl _⟩
theorem gI.round (b:jI) (x:Bool):gI b {b with round:=x}:=⟨rfl,rfl,λ_=>Int.le_refl _⟩
theorem gI.far (b:jI) (i:Nat) (x:Int):gI b {b with far:=b.far.set i (max (b.far.getD i 0) x)}:=by
 refine⟨rfl,by simp,λj=> ?_⟩;show _<=(b.far.set i _).getD j 0;by_cases h:i=j
 . subst h
   rcases zLg i b.far.length with hl|hl
   . rw[iH hl];omega
   rw[List.set_eq_of_length_le hl];exact Int.le_refl _
 rw[fS h];exact Int.le_refl _
theorem nG :∀ (f:Nat),(∀ i b b2,iU T f i b=some b2->gI b b2)/\(∀ i k r b b2,cJ T f i k r b=some b2->gI b b2):=by
 intro f
 induction f with
 | zero=>exact⟨λi b b2 h=>(by rw[iU] at h;cases h),λi k r b b2 h=>(by rw[cJ] at h;cases h)⟩
 | succ f ih=>
  refine⟨λi b b2 h=> ?_,λi k r b b2 h=> ?_⟩
  . rw[iU] at h
    split at h
    . cases h
    rename_i b3 e
    cases h;exact (gI.state b i 1).trans ((ih.2 _ _ _ _ _ e).trans (gI.state b3 i 2))
  cases r with
  | nil=>rw[cJ] at h;cases h;exact gI.refl _
  | cons u r=>
   rw[cJ] at h;split at h
   . exact ih.2 _ _ _ _ _ h
   simp only at h
   have h0:=gI.far b i (fJ (T.cU.getD k 0)-1);split at h
   . exact h0.trans (ih.2 _ _ _ _ _ h)
   split at h
   . exact h0.trans ((gI.round _ true).trans (ih.2 _ _ _ _ _ h))
   split at h
   . cases h
   rename_i b3 e
   have h1:gI {b with far:=b.far.set i (max (b.far.getD i 0) (fJ (T.cU.getD k 0)-1))} b3:=by
    split at e
    . exact ih.1 _ _ _ e
    cases e;exact gI.refl _
   exact h0.trans (h1.trans ((gI.far b3 i _).trans (ih.2 _ _ _ _ _ h)))
def WalkC (T:iP) (R f:Nat):Prop:=∀ (i:Nat) (b b2:jI) (B:Nat) (w:World) (sa ta fa ra wa gs gf bt bc cc br cr bg cg:Nat),iU T f i b=some b2->BAt B w sa ta fa ra wa gs gf bt T.gO.length b->iW B w bt T bc cc br cr bg cg->i<T.gO.length->
 b.state.length=T.gO.length->b.far.length=T.gO.length->(∀ j,0<=b.far.getD j 0)->(∀ j,b2.far.getD j 0<=1000000)->
 Calls Tryz.prog 74 #[.int .i64 i,aK sa,aK ta,aK fa,aK ra,aK wa] w λe w'=>e=.returned (.tuple #[])/\BAt B w' sa ta fa ra wa gs gf bt T.gO.length b2/\Below B w w'
structure WalkSt (T:iP) (F i:Nat) (b3:jI) (B:Nat) (w:World) (sa ta fa ra wa gs gf bt bc cc br cr bg cg:Nat) (k:Nat) (b:jI) (wr:World):Prop where
 aQ:BAt B wr sa ta fa ra wa gs gf bt T.gO.length b
 tab:iW B wr bt T bc cc br cr bg cg
 rest:∃ f,f<=F/\cJ T f i k ((T.gO.getD i []).drop k) b=some b3
 ls:b.state.length=T.gO.length
 lf:b.far.length=T.gO.length
 nn:∀ j,0<=b.far.getD j 0
 below:Below B w wr
theorem fG {j:Nat} (h:j<l.length):(dE l)[j]?=some (.int .i64 (l.getD j 0)):=by
 unfold dE;rw[List.getElem?_map,zLe h,zLf,zLe h];rfl
theorem walk_any (T:iP) (R:Nat) (hT:WfT T R) (f:Nat):WalkC T R f:=by
 induction f using Nat.strongRecOn with
 | ind f ih=>
 intro i b b2 B w sa ta fa ra wa gs gf bt bc cc br cr bg cg hw hB Vx hi Og P8 Kq Hm;cases f with
 | zero=>rw[iU] at hw;cases hw
 | succ f=>
 rw[iU] at hw;cases hx:cJ T f i 0 (T.gO.getD i []) {b with state:=b.state.set i 1} with
 | none=>rw[hx] at hw;cases hw
 | some b3=>
 rw[hx] at hw;cases hw;have IH:=zh ih;have HT:=zh hT;have t7:=hB.setState i 1;have Qc:=Vx.size.2;obtain⟨row,Hb⟩:=zG T.gO i hi;have KY:T.gO.getD i []=row:=by rw[zLf,Hb];rfl
 have Xu:row∈T.gO:=zM Hb;have Qz:=hT.rows row Xu;have NW:=hT.cells row Xu;have s0:=aB _ _ 0 _ _ _ hB.hs;have t0:=aB _ _ 0 _ _ _ hB.ht;simp only[zLa,zLb] at s0 t0;have cgs:=aE hB.rs i _ (fG (by rw[Og];exact hi));have fgs:=hB.rs.frozenAt i;have hzi:(i:Int)<(T.gO.length:Int):=by omega
 obtain⟨ZL,ZM,ZN,ZO,ZQ,ZR⟩:=hB.n1;have t8:=hB.lb;have Jc:Below B w (w.setCell ⟨gs,i,none⟩ (.int .i64 1)):=(zBr B w).setCell (p:=(⟨gs,i,none⟩:Addr)) t8.1 _;have Hl:WalkSt T f i b3 B w sa ta fa ra wa gs gf bt bc cc br cr bg cg 0 {b with state:=b.state.set i 1} (w.setCell ⟨gs,i,none⟩ (.int .i64 1)):=
  ⟨t7,Vx.below Jc,⟨f,zR _,by rw[List.drop_zero];exact hx⟩,by simpa using Og,P8,Kq,Jc⟩
 have Hq:=zh Hl;have Y4:=zh Hm;have qk:=zh (zAi Hb (zAi KY (zAi Qz NW)));have t1:=aB _ _ 0 _ _ _ t7.ht;simp only[zLa,zLb] at t1;have Nv:=Vx.below Jc;have g2:=Nv.c2;obtain⟨rb,rcap,q1',q2,q3⟩:=Vx.gO i row Hb;have q1:=(aL Jc ⟨bg,i,none⟩ Vx.ltg).trans q1';have jy:=zh (zAi q2 q3);clear Hl Hm Hb KY Xu Qz NW hB t7 Vx hx Og P8 Kq Jc ih hT Nv q3 q1';have Sj:T.cU.length<1000000:=Hq.o.tab.size.1
 go_enter Tryz.func74,Tryz.ntmps74;go_upto_region 1 with (fail)
 generalize w.setCell ⟨gs,i,none⟩ (.int .i64 1)=w1 at*;go_wp2_with (fail);have UY:row.length<=T.cU.length/\T.cU.length<=row.length:=by rw[qk.o.2.2.1];exact⟨zR _,zR _⟩
 obtain⟨qg,xt⟩:=UY;clear s0 t0 t1 cgs fgs g2 q1;go_loopw [21] (λK7 wr=>∃ (k:Nat) (bk:jI),K7=.int .i64 k/\k<=row.length/\WalkSt T f i b3 B w sa ta fa ra wa gs gf bt bc cc br cr bg cg k bk wr) (λK7 _=>row.length-(RowKit.intOf K7).toNat)
 case atStart=>exact⟨0,_,rfl,by omega,Hq.o⟩
 case round=>
  obtain⟨k,bk,rfl,hk,hS⟩:=hrel;have HS:=zh hS;clear hS Hq;by_cases Hf:k<row.length
  . have hz:(k:Int)<(row.length:Int):=by omega
    obtain⟨u,hu⟩:=zG row k Hf;have hur:=qk.o.2.2.2 u (zM hu);have ck:wr.cell? ⟨rb,k,none⟩=some (.int .i64 u):=(aL HS.o.below ⟨rb,k,none⟩ q2).trans (jy.o.2 k u hu);obtain⟨f',l6,Ha⟩:=HS.o.rest;have Q2:(T.gO.getD i []).drop k=u::row.drop (k+1):=by
     rw[qk.o.2.1,List.drop_eq_getElem_cons Hf];congr 1;rw[zLe Hf] at hu;exact zO hu
    rw[Q2] at Ha;have DU:=zW k (by omega);cases f' with
    | zero=>rw[cJ] at Ha;cases Ha
    | succ f'=>
    rw[cJ] at Ha;clear Q2 hu Hf;have jd:(T.gO.getD i []).drop (k+1)=row.drop (k+1):=by rw[qk.o.2.1]
    have CC:=zh jd;clear jd;by_cases Py:u<0
    . rw[zP Py] at Ha
      have XI:=zh Ha;clear Ha;go_wp2_with (fail);go_roundw
      case rel=>exact⟨k+1,bk,by go_num,by omega,HS.o.aQ,HS.o.tab,⟨f',by omega,by rw[CC.o];exact XI.o⟩,HS.o.ls,HS.o.lf,HS.o.nn,HS.o.below⟩
      case measure=>(simp[zI]<;>omega)
    rw[zN Py] at Ha
    simp only at Ha;obtain⟨m,hm⟩:∃ m:Nat,u=(m:Int):=⟨u.toNat,by omega⟩;subst hm;rw[Int.toNat_natCast] at Ha;have NO:m<T.gO.length:=by omega
    have ZK:(m:Int)<(T.gO.length:Int):=by omega
    obtain⟨cv,Jh⟩:=zE (T.cU.getD k 0);obtain⟨wk,Kv⟩:=zE (fJ cv);rw[<-Jh,<-Kv] at Ha;have hwr:=za7 cv;rw[<-Kv] at hwr;obtain⟨F1,Fp⟩:=zE (max (bk.far.getD i 0) (wk-1));rw[<-Fp] at Ha;obtain⟨rcu,G6⟩:=HS.o.tab.cU;have cck:wr.cell? ⟨bc,k,none⟩=some (.int .i32 cv):=by
     have h:=G6.cell k (by simp;omega);rw[h,Jh];congr 2;rw[getElem!_pos _ k (by simp;omega),zLf,zLe (by omega)];simp
    have g0:=HS.o.tab.c0;have t0:=aB _ _ 0 _ _ _ HS.o.aQ.ht;have f0:=aB _ _ 0 _ _ _ HS.o.aQ.hf;simp only[zLa,zLb] at t0 f0;have Oc:(k:Int)<(T.cU.length:Int):=by omega
    have cfi:=aE HS.o.aQ.rf i _ (fG (by rw[HS.o.lf];exact hi));have ffi:=HS.o.aQ.rf.frozenAt i;have W1:=HS.o.nn i;have Mx:bk.far.getD i 0<=1000000:=by
     have h1:=(nG (T:=T) (f'+1)).2 i k (((m:Int))::row.drop (k+1)) bk b3 (by rw[cJ,zN Py];simp only[Int.toNat_natCast,<-Jh,<-Kv,<-Fp];exact Ha);exact Int.le_trans (h1.2.2 i) (Y4.o i)
    obtain⟨F0,RV⟩:=zE (bk.far.getD i 0);rw[<-RV] at cfi W1 Mx Fp;have Hg:∀ w,Calls Tryz.prog 75 #[.int .i32 cv] w λe w'=>e=.returned (.int .i64 wk)/\w=w':=λw=>by
     have h:=Tryz.utf8_RuneLen cv w;rw[zfX,<-Kv] at h;exact h.mono λ_ _ h=>⟨h.1,h.2.symm⟩
    have yf:=zh Hg;have XI:=zh Ha;have IA:=zh Fp;have O9:IntKind.i64.wrap (wk-1)=wk-1:=zIn _ (by omega);clear Ha Fp RV Kv Jh G6 Hg Py;go_upto_region 6 with (go_at_call 75;refine (yf.o _).mono ?_;rintro e w2 ⟨rfl,rfl⟩)
    go_cut [] from 36 to 45 (λwx=>BAt B wx sa ta fa ra wa gs gf bt T.gO.length {bk with far:=bk.far.set i F1}/\Below B wr wx)
    case first=>
     refine wp_region_noPanic ?_;refine cK (λw'=>w'.cell? ⟨fa,0,none⟩=some (.slice (some ⟨gf,0,none⟩) T.gO.length T.gO.length)/\w'.cell? ⟨gf,i,none⟩=some (.int .i64 F0)) 10 (by kernel_rfl) ⟨f0,cfi⟩ (λHe=> ?_);refine aH 0 He ?_;refine aH 1 He ?_;refine aH 2 He ?_;refine aH 3 He ?_;refine aH 4 He ?_;refine aH 5 He ?_;refine aH 6 He ?_;refine aH 7 He ?_;refine aH 8 He ?_;refine aH 9 He ?_;refine dA 10 (λK hK=> ?_);go_simp;refine hK.out _ _ (λh=>absurd rfl h) ?_;clear hK K He;(try simp only[Act.put,lA,lB,lC]);refine fK (by kernel_rfl) ?_;refine NoPanic.normal ?_;go_wp2_with (fail);go_meet
     case rel=>
      rw[<-IA.o];have h:=HS.o.aQ.drew.setFar i F1;exact⟨h,((zBr B wr).drew).setCell (p:=(⟨gf,i,none⟩:Addr)) t8.2.1 _⟩
    case rest=>
     obtain⟨eh,yd⟩:=hcut;have F4:=HS.o.below.trans yd;have I9:=HS.o.tab.below yd;have GI:=HS.o.ls;have GF:(bk.far.set i F1).length=T.gO.length:=by simpa using HS.o.lf
     have GV:∀ j,0<=(bk.far.set i F1).getD j 0:=λj=>by
      by_cases e:i=j
      . subst e
        rw[iH (by rw[HS.o.lf];exact hi),IA.o];omega
      rw[fS e];exact HS.o.nn j
     obtain⟨b6,Tb⟩:∃ b6:jI,b6={bk with far:=bk.far.set i F1}:=⟨_,rfl⟩;rw[<-Tb] at eh;have Ha:(if 0<=T.rU.getD m 0 then cJ T f' i (k+1) (row.drop (k+1)) b6 else if b6.state.getD m 0=1 then cJ T f' i (k+1) (row.drop (k+1)) {b6 with round:=true} else
      match (if b6.state.getD m 0=0 then iU T f' m b6 else some b6) with
      | none=>none
      | some b7=>cJ T f' i (k+1) (row.drop (k+1)) {b7 with far:=b7.far.set i (max (b7.far.getD i 0) (wk+b7.far.getD m 0))})=some b3:=by rw[Tb];exact XI.o
     have Dg:b6.state.length=T.gO.length:=by rw[Tb];exact GI
     have GG:b6.far.length=T.gO.length:=by rw[Tb];exact GF
     have GW:∀ j,0<=b6.far.getD j 0:=λj=>by rw[Tb];exact GV j
     clear GI GF GV;have Qe:=zh (zAi eh (zAi I9 (zAi F4 (zAi Dg (zAi GG GW)))));have OJ:∃ x,T.rU[m]?=some x/\T.rU.getD m 0=x:=by
      have hl:m<T.rU.length:=by rw[HT.o.rules];exact NO
      exact⟨T.rU[m],zLe hl,by rw[zLf,zLe hl];rfl⟩
     obtain⟨rx,Ci,Cj⟩:=OJ;rw[Cj] at Ha;have k0:=aB _ _ 0 _ _ _ eh.ht;have k1:=I9.c1;have k2:=I9.rU m rx Ci;have k3:=aB _ _ 0 _ _ _ eh.hs;have k4:=aE eh.rs m _ (fG (by rw[Dg];exact NO));have lk4:=(eh.rs.lt gs rfl).2;have lkB:B<=wc.heap.size:=by omega
     simp only[zLa,zLb] at k0 k3;have G9:(m:Int)<(T.rU.length:Int):=by rw[HT.o.rules];omega
     clear eh I9 F4 Dg GG GW Tb Ci Cj f0 cfi ffi t0 g0 cck ck yd;by_cases UX:0<=rx
     . rw[zP UX] at Ha
       have Bu:=zh Ha;clear Ha;go_wp2_with (fail);go_roundw
       case rel=>exact⟨k+1,b6,by go_num,by omega,Qe.o.1,Qe.o.2.1,⟨f',by omega,by rw[CC.o];exact Bu.o⟩,Qe.o.2.2.2.1,Qe.o.2.2.2.2.1,Qe.o.2.2.2.2.2,Qe.o.2.2.1⟩
       case measure=>(simp[zI]<;>omega)
     rw[zN UX] at Ha
     by_cases qx:b6.state.getD m 0=1
     . rw[zP qx] at Ha
       rw[qx] at k4;have Bu:=zh Ha;have cr:=aB _ _ 0 _ _ _ Qe.o.1.hr;have fr:=aM _ _ 0 _ _ Qe.o.1.hr;simp only[zLa,zLb] at cr;have h9:=Qe.o.1.setRound true;have kj:Below B wc (wc.setCell ⟨ra,0,none⟩ (.bool true)):=(zBr B wc).setCell (p:=(⟨ra,0,none⟩:Addr)) t8.2.2 _;have QA:=zh (zAi h9 kj);clear Ha qx h9 kj;go_wp2_with (fail);go_roundw
       case rel=>exact⟨k+1,_,by go_num,by omega,QA.o.1,Qe.o.2.1.below QA.o.2,⟨f',by omega,by rw[CC.o];exact Bu.o⟩,Qe.o.2.2.2.1,Qe.o.2.2.2.2.1,Qe.o.2.2.2.2.2,Qe.o.2.2.1.trans QA.o.2⟩
       case measure=>(simp[zI]<;>omega)
     rw[zN qx] at Ha
     obtain⟨st,Hl⟩:=zE (b6.state.getD m 0);rw[<-Hl] at Ha k4 qx;by_cases ky:st=0
     . rw[zP ky] at Ha
       cases Ik:iU T f' m b6 with
       | none=>rw[Ik] at Ha;cases Ha
       | some b7=>
       rw[Ik] at Ha;simp only at Ha;have Ab:=zh Ha;have gy:∀ j,b7.far.getD j 0<=1000000:=λj=>by
        have h1:=(nG (T:=T) f').2 _ _ _ _ _ Ha;have h2:=(gI.far b7 i (wk+b7.far.getD m 0)).2.2 j;exact Int.le_trans h2 (Int.le_trans (h1.2.2 j) (Y4.o j))
       have Hh:=IH.o f' (by omega) m b6 b7 B wc sa ta fa ra wa gs gf bt bc cc br cr bg cg Ik Qe.o.1 Qe.o.2.1 NO Qe.o.2.2.2.1 Qe.o.2.2.2.2.1 Qe.o.2.2.2.2.2 gy;have GL:=(nG (T:=T) f').1 _ _ _ Ik;have LX:=zh GL;have qi:=zh Hh;have w0:=aB _ _ 0 _ _ _ Qe.o.1.hw;simp only[zLa,zLb] at w0;clear Hh Ik gy Ha GL Hl qx;subst ky;go_upto_region 13 with (fail)
       refine qi.o.mono ?_;rintro e w8 ⟨rfl,PV,Yr⟩;have Yo:=zh (show BAt B w8 sa ta fa ra wa gs gf bt T.gO.length b7/\iW B w8 bt T bc cc br cr bg cg/\Below B w w8/\b7.state.length=T.gO.length/\b7.far.length=T.gO.length/\∀ j,0<=b7.far.getD j 0 from
        ⟨PV,Qe.o.2.1.below Yr,Qe.o.2.2.1.trans Yr,LX.o.1.trans Qe.o.2.2.2.1,LX.o.2.1.trans Qe.o.2.2.2.2.1,λj=>Int.le_trans (Qe.o.2.2.2.2.2 j) (LX.o.2.2 j)⟩)
       clear PV Yr k0 k1 k2 k3 k4 lk4 w0;have Ys:∀ j,b7.far.getD j 0<=1000000:=λj=>by
        have h1:=(nG (T:=T) f').2 _ _ _ _ _ Ab.o;have h2:=(gI.far b7 i (wk+b7.far.getD m 0)).2.2 j;exact Int.le_trans h2 (Int.le_trans (h1.2.2 j) (Y4.o j))
       have Dj:=Yo.o.2.2.2.2.2 i;have Dk:=Yo.o.2.2.2.2.2 m;have B7:=Ys i;have B8:=Ys m;have x0:=aB _ _ 0 _ _ _ Yo.o.1.hf;simp only[zLa,zLb] at x0;have x1:=aE Yo.o.1.rf i _ (fG (by rw[Yo.o.2.2.2.2.1];exact hi));have x2:=aE Yo.o.1.rf m _ (fG (by rw[Yo.o.2.2.2.2.1];exact NO));have fx:=Yo.o.1.rf.frozenAt i;obtain⟨Fi,Vu⟩:=zE (b7.far.getD i 0);obtain⟨Fm,BQ⟩:=zE (b7.far.getD m 0);rw[<-Vu] at x1 Dj B7
       rw[<-BQ] at x2 Dk B8;have PH:IntKind.i64.wrap (wk+Fm)=wk+Fm:=zIn _ (by omega);have Kc:=zh (zAi Vu BQ);clear Vu BQ Ys;go_upto_region 13 with (fail)
       refine wp_region_noPanic ?_;refine cK (λw'=>w'.cell? ⟨fa,0,none⟩=some (.slice (some ⟨gf,0,none⟩) T.gO.length T.gO.length)/\w'.cell? ⟨gf,i,none⟩=some (.int .i64 Fi)/\w'.cell? ⟨gf,m,none⟩=some (.int .i64 Fm)) 14 (by kernel_rfl) ⟨x0,x1,x2⟩ (λHe=> ?_);refine aH 0 He ?_;refine aH 1 He ?_;refine aH 2 He ?_;refine aH 3 He ?_;refine aH 4 He ?_;refine aH 5 He ?_;refine aH 6 He ?_;refine aH 7 He ?_;refine aH 8 He ?_;refine aH 9 He ?_;refine aH 10 He ?_;refine aH 11 He ?_;refine aH 12 He ?_;refine aH 13 He ?_;refine dA 14 (λK hK=> ?_);go_simp;refine hK.out _ _ (λh=>absurd rfl h) ?_;clear hK K He;(try simp only[Act.put,lA,lB,lC]);refine fK (by kernel_rfl) ?_;refine NoPanic.normal ?_;have h9:=Yo.o.1.drew.setFar i (max Fi (wk+Fm));have kj:Below B w8 (w8.drew.setCell ⟨gf,i,none⟩ (.int .i64 (max Fi (wk+Fm)))):=((zBr B w8).drew).setCell (p:=(⟨gf,i,none⟩:Addr)) t8.2.1 _
       have ewd:w8.drew.setCell ⟨gf,i,none⟩ (.int .i64 (max Fi (wk+Fm)))=(w8.setCell ⟨gf,i,none⟩ (.int .i64 (max Fi (wk+Fm)))).drew:=rfl;rw[ewd] at h9 kj;clear ewd;generalize (w8.setCell ⟨gf,i,none⟩ (.int .i64 (max Fi (wk+Fm)))).drew=w9 at*;have QA:=zh (zAi h9 kj);clear h9 kj x0 x1 x2 fx PH;go_wp2_with (fail);go_roundw
       case rel=>
        have jm:=Ab.o;rw[<-Kc.o.1,<-Kc.o.2] at jm;refine⟨k+1,_,by go_num,by omega,QA.o.1,Yo.o.2.1.below QA.o.2,⟨f',by omega,by rw[CC.o];exact jm⟩,Yo.o.2.2.2.1,by simpa using Yo.o.2.2.2.2.1,λj=> ?_,Yo.o.2.2.1.trans QA.o.2⟩;have h2:=(gI.far b7 i (wk+b7.far.getD m 0)).2.2 j;rw[<-Kc.o.1,<-Kc.o.2] at h2;exact Int.le_trans (Yo.o.2.2.2.2.2 j) h2
       case measure=>(simp[zI]<;>omega)
     rw[zN ky] at Ha
     simp only at Ha;obtain⟨b7,B6⟩:∃ b7:jI,b7=b6:=⟨_,rfl⟩;rw[<-B6] at Ha;have Ab:=zh Ha;have Yo:=Qe;rw[<-B6] at Yo;clear Ha Hl B6;have Ys:∀ j,b7.far.getD j 0<=1000000:=λj=>by
      have h1:=(nG (T:=T) f').2 _ _ _ _ _ Ab.o;have h2:=(gI.far b7 i (wk+b7.far.getD m 0)).2.2 j;exact Int.le_trans h2 (Int.le_trans (h1.2.2 j) (Y4.o j))
     have Dj:=Yo.o.2.2.2.2.2 i;have Dk:=Yo.o.2.2.2.2.2 m;have B7:=Ys i;have B8:=Ys m;have x0:=aB _ _ 0 _ _ _ Yo.o.1.hf;simp only[zLa,zLb] at x0;have x1:=aE Yo.o.1.rf i _ (fG (by rw[Yo.o.2.2.2.2.1];exact hi));have x2:=aE Yo.o.1.rf m _ (fG (by rw[Yo.o.2.2.2.2.1];exact NO));have fx:=Yo.o.1.rf.frozenAt i;obtain⟨Fi,Vu⟩:=zE (b7.far.getD i 0);obtain⟨Fm,BQ⟩:=zE (b7.far.getD m 0);rw[<-Vu] at x1 Dj B7
     rw[<-BQ] at x2 Dk B8;have PH:IntKind.i64.wrap (wk+Fm)=wk+Fm:=zIn _ (by omega);have Kc:=zh (zAi Vu BQ);clear Vu BQ Ys;go_upto_region 13 with (fail)
     refine wp_region_noPanic ?_;refine cK (λw'=>w'.cell? ⟨fa,0,none⟩=some (.slice (some ⟨gf,0,none⟩) T.gO.length T.gO.length)/\w'.cell? ⟨gf,i,none⟩=some (.int .i64 Fi)/\w'.cell? ⟨gf,m,none⟩=some (.int .i64 Fm)) 14 (by kernel_rfl) ⟨x0,x1,x2⟩ (λHe=> ?_);refine aH 0 He ?_;refine aH 1 He ?_;refine aH 2 He ?_;refine aH 3 He ?_;refine aH 4 He ?_;refine aH 5 He ?_;refine aH 6 He ?_;refine aH 7 He ?_;refine aH 8 He ?_;refine aH 9 He ?_;refine aH 10 He ?_;refine aH 11 He ?_;refine aH 12 He ?_;refine aH 13 He ?_;refine dA 14 (λK hK=> ?_);go_simp;refine hK.out _ _ (λh=>absurd rfl h) ?_;clear hK K He;(try simp only[Act.put,lA,lB,lC]);refine fK (by kernel_rfl) ?_;refine NoPanic.normal ?_;have h9:=Yo.o.1.drew.setFar i (max Fi (wk+Fm));have kj:Below B wc (wc.drew.setCell ⟨gf,i,none⟩ (.int .i64 (max Fi (wk+Fm)))):=((zBr B wc).drew).setCell (p:=(⟨gf,i,none⟩:Addr)) t8.2.1 _
     have ewd:wc.drew.setCell ⟨gf,i,none⟩ (.int .i64 (max Fi (wk+Fm)))=(wc.setCell ⟨gf,i,none⟩ (.int .i64 (max Fi (wk+Fm)))).drew:=rfl;rw[ewd] at h9 kj;clear ewd;generalize (wc.setCell ⟨gf,i,none⟩ (.int .i64 (max Fi (wk+Fm)))).drew=w9 at*;have QA:=zh (zAi h9 kj);clear h9 kj x0 x1 x2 fx PH;go_wp2_with (fail);go_roundw
     case rel=>
      have jm:=Ab.o;rw[<-Kc.o.1,<-Kc.o.2] at jm;refine⟨k+1,_,by go_num,by omega,QA.o.1,Yo.o.2.1.below QA.o.2,⟨f',by omega,by rw[CC.o];exact jm⟩,Yo.o.2.2.2.1,by simpa using Yo.o.2.2.2.2.1,λj=> ?_,Yo.o.2.2.1.trans QA.o.2⟩;have h2:=(gI.far b7 i (wk+b7.far.getD m 0)).2.2 j;rw[<-Kc.o.1,<-Kc.o.2] at h2;exact Int.le_trans (Yo.o.2.2.2.2.2 j) h2
     case measure=>(simp[zI]<;>omega)
  have hz:¬ (k:Int)<(row.length:Int):=by omega
  obtain⟨f',l6,Ha⟩:=HS.o.rest;rw[qk.o.2.1,List.drop_eq_nil_of_le (by omega)] at Ha;cases f' with
  | zero=>rw[cJ] at Ha;cases Ha
  | succ f'=>
  rw[cJ] at Ha;cases Ha;have s0:=aB _ _ 0 _ _ _ HS.o.aQ.hs;simp only[zLa,zLb] at s0;have cgs:=aE HS.o.aQ.rs i _ (fG (by rw[HS.o.ls];exact hi));have fgs:=HS.o.aQ.rs.frozenAt i;have h9:=HS.o.aQ.setState i 2;have kj:Below B wr (wr.setCell ⟨gs,i,none⟩ (.int .i64 2)):=(zBr B wr).setCell (p:=(⟨gs,i,none⟩:Addr)) t8.1 _;have QA:=zh (zAi h9 kj);clear h9 kj;go_wp2_with (fail);go_end0;exact⟨rfl,QA.o.1,HS.o.below.trans QA.o.2⟩
theorem zaT (n:Nat) (hn:n<=1000000) (w:World):(Instr.makeSlice 39 (.int .i64 (n:Int)) (.int .i64 (n:Int))).run Tryz.prog w=.ok (.slice (some ⟨w.heap.size,0,none⟩) n n) (w.alloc (.cells (dE (List.replicate n 0)).toArray 3)):=by
 obtain⟨i,h1,h2,h3,h4⟩:=info_parts (P:=Tryz.prog) (e:=3) (z:=.int .i64 0) (size:=1) (bytes:=8) (by kernel_rfl);have h:=run_makeSlice w 39 3 i (.int .i64 0) Tryz.underlying39 h1 h2 .i64 .i64 n n (by omega) (Int.le_refl _) (by rw[h3];simp;omega) (by rw[h4];omega) (by omega);have e:madeCells (Value.int .i64 0).cells n=(dE (List.replicate n 0)).toArray:=by
  apply Array.ext';have e1:(madeCells (Value.int .i64 0).cells n).toList=List.replicate n (.int .i64 0):=toList_madeCells_one _ _;rw[e1];simp[dE]
 rw[h,h3,Nat.mul_one,Int.toNat_natCast,e]
theorem zbe (w:World) (g n:Nat) (hn:n<=1000000) (h:w.heap[g]?=some (.cells (dE (List.replicate n 0)).toArray 3 (0,0))):w.ownsRow 0 3 1 (.slice (some ⟨g,0,none⟩) n n) n (dE (List.replicate n 0)):=
 ⟨by simp[dE],.inr ⟨g,n,_,rfl,zZ _,h,zR _,by unfold maxLen;omega,by simp[dE],by rw[Nat.mul_one];exact List.take_of_length_le (by simp[dE])⟩⟩
theorem iW.mono {B':Nat} {bt:Nat} {bc cc br cr bg cg:Nat} (h:iW B w bt T bc cc br cr bg cg) (hb:B<=B'):iW B' w bt T bc cc br cr bg cg:=
 ⟨zLd h.lt hb,h.c0,h.c1,h.c2,h.c3,h.cU,zLd h.ltc hb,h.rU,zLd h.ltr hb,λi row hr=>by
  obtain⟨b,c,h1,h2,h3⟩:=h.gO i row hr;exact⟨b,c,h1,zLd h2 hb,h3⟩,zLd h.ltg hb,h.cap0,h.size⟩
theorem nB {f:Nat}:∀ (n i:Nat) (Hw Hj:Int) (b b2:jI),bZ T f n i Hw b=some (Hj,b2)->gI b b2
 | 0,i,Hw,Hj,b,b2,h=>by rw[bZ] at h;cases h;exact gI.refl _
 | n+1,i,Hw,Hj,b,b2,h=>by
  rw[bZ] at h;split at h
  . exact nB n _ _ _ _ _ h
  split at h
  . cases h
  rename_i b3 e
  have h1:gI b b3:=by
   split at e
   . exact (nG f).1 _ _ _ e
   cases e;exact gI.refl _
  exact h1.trans (nB n _ _ _ _ _ h)
structure LpSt (T:iP) (f:Nat) (Hj:Int) (b2:jI) (B:Nat) (w:World) (sa ta fa ra wa gs gf bt bc cc br cr bg cg:Nat) (i:Nat) (Hw:Int) (b:jI) (wr:World):Prop where
 aQ:BAt B wr sa ta fa ra wa gs gf bt T.gO.length b
 tab:iW B wr bt T bc cc br cr bg cg
 rest:bZ T f (T.gO.length-i) i Hw b=some (Hj,b2)
 ls:b.state.length=T.gO.length
 lf:b.far.length=T.gO.length
 nn:∀ j,0<=b.far.getD j 0
 best0:0<=Hw/\Hw<=1000000
 below:Below B w wr
theorem bR (w:World) (o:Obj) (k:Nat) (h:k=w.heap.size):(w.alloc o).heap[k]?=some o:=by rw[aN,zP h]
theorem cV (w:World) (o:Obj) (k:Nat) (h:k<w.heap.size):(w.alloc o).heap[k]?=w.heap[k]?:=by rw[aN,zN (by omega)]
def pB (w:World) (bt n S:Nat):World:=
 ((((((w.alloc (.cells #[aK bt] 68)).alloc (.cells (dE (List.replicate n 0)).toArray 3)).alloc (.cells #[.slice (some ⟨S+1,0,none⟩) n n] 39)).alloc (.cells (dE (List.replicate n 0)).toArray 3)).alloc (.cells #[.slice (some ⟨S+1+1+1,0,none⟩) n n] 39)).alloc (.cells #[.bool false] 4)).alloc
   (.cells #[walkV (S+1+1) S (S+1+1+1+1) (S+1+1+1+1+1) (S+1+1+1+1+1+1)] 153)
theorem world7_at (w:World) (bt n B:Nat) (hn:n<=1000000) (hB:B<=w.heap.size):
 BAt B (pB w bt n w.heap.size) (w.heap.size+1+1) w.heap.size (w.heap.size+1+1+1+1) (w.heap.size+1+1+1+1+1) (w.heap.size+1+1+1+1+1+1) (w.heap.size+1) (w.heap.size+1+1+1) bt n ⟨List.replicate n 0,List.replicate n 0,false⟩/\
  Below w.heap.size w (pB w bt n w.heap.size):=by
 refine⟨⟨?_,?_,?_,?_,?_,zbe _ _ _ hn ?_,zbe _ _ _ hn ?_,by omega,by omega,by omega,by omega⟩,?_⟩
 . unfold pB;rw[cV _ _ _ (by simp<;>omega),cV _ _ _ (by simp<;>omega),cV _ _ _ (by simp<;>omega),cV _ _ _ (by simp<;>omega),bR _ _ _ (by simp)]
 . unfold pB;rw[cV _ _ _ (by simp<;>omega),cV _ _ _ (by simp<;>omega),cV _ _ _ (by simp<;>omega),cV _ _ _ (by simp<;>omega),cV _ _ _ (by simp<;>omega),cV _ _ _ (by simp<;>omega),bR _ _ _ (by simp)]
 . unfold pB;rw[cV _ _ _ (by simp<;>omega),cV _ _ _ (by simp<;>omega),bR _ _ _ (by simp)]
 . unfold pB;rw[cV _ _ _ (by simp<;>omega),bR _ _ _ (by simp)]
 . unfold pB;rw[bR _ _ _ (by simp)]
 . unfold pB;rw[cV _ _ _ (by simp<;>omega),cV _ _ _ (by simp<;>omega),cV _ _ _ (by simp<;>omega),cV _ _ _ (by simp<;>omega),cV _ _ _ (by simp<;>omega),bR _ _ _ (by simp)]
 . unfold pB;rw[cV _ _ _ (by simp<;>omega),cV _ _ _ (by simp<;>omega),cV _ _ _ (by simp<;>omega),bR _ _ _ (by simp)]
 exact (((((((zBr _ w).alloc (zR _) _).alloc (by simp) _).alloc (by simp;omega) _).alloc (by simp;omega) _).alloc (by simp;omega) _).alloc (by simp;omega) _).alloc (by simp;omega) _
theorem bound_any (T:iP) (R f:Nat) (hT:WfT T R) (Hj:Int) (b2:jI) (hl:bZ T f T.gO.length 0 0 ⟨List.replicate T.gO.length 0,List.replicate T.gO.length 0,false⟩=some (Hj,b2)) (Hm:∀ j,b2.far.getD j 0<=1000000)
 (B0:Nat) (w:World) (bt bc cc br cr bg cg:Nat) (hTab0:iW B0 w bt T bc cc br cr bg cg) (hBw0:B0<=w.heap.size):
 Calls Tryz.prog 48 #[aK bt] w λe w'=>e=.returned (.int .i64 (if b2.round then -1 else Hj+1))/\Below w.heap.size w w':=by
 obtain⟨B,hB⟩:=zE (w.heap.size);have Vx:iW B w bt T bc cc br cr bg cg:=hTab0.mono (by omega);have Fl:B<=w.heap.size:=by omega
 have tI:=zh hB;clear hTab0 hBw0 hB;have hn:=Vx.size.2;have vn:=hT.some';have Dh:=zaT T.gO.length (by omega);have g2:=Vx.c2;have lbt:bt<w.heap.size:=zLd Vx.lt Fl;have lb1:bt<w.heap.size+1:=by omega
 have lb2:bt<w.heap.size+1+1:=by omega
 have mx:=zh Vx;have HT:=zh hT;have HL:=zh hl;have Y4:=zh Hm;clear Vx hT hl Hm;go_enter Tryz.func48,Tryz.ntmps48;go_upto_region 6 with (fail)
 obtain⟨IX,XP⟩:=world7_at w bt T.gO.length B (by omega) Fl;change Code.wp _ _ _ _ (pB w bt T.gO.length w.heap.size);have MN:=mx.o.below (zdD XP Fl);generalize pB w bt T.gO.length w.heap.size=w7 at*;obtain⟨S,hS⟩:=zE (w.heap.size);rw[<-hS] at IX ⊢;generalize Cl:S+1+1=sa at*;generalize En:S+1=gs at*;generalize Lb:sa+1=gf at*;generalize Ki:gf+1=fa at*;generalize Xa:fa+1=ra at*;generalize O4:ra+1=wa at*
 have Hl:LpSt T f Hj b2 B w7 sa S fa ra wa gs gf bt bc cc br cr bg cg 0 0 ⟨List.replicate T.gO.length 0,List.replicate T.gO.length 0,false⟩ w7:=
  ⟨IX,MN,HL.o,by simp,by simp,λj=>by
   rw[zLf];cases h:(List.replicate T.gO.length (0:Int))[j]? with
   | none=>simp
   | some x=>have:=List.eq_of_mem_replicate (zM h);simp[this],by omega,zBr _ _⟩
 have Hq:=zh Hl;have Yo:=zh XP;have t0:=aB _ _ 0 _ _ _ IX.ht;simp only[zLa,zLb] at t0;have lt0:=aA IX.ht;have q2:=MN.c2;have lq2:bt<w7.heap.size:=by omega
 have hBS:B<=S:=by omega
 clear Hl XP IX MN Cl En Lb Ki Xa O4 Dh g2 lb1 lb2 hS;go_wp2_with (fail);go_loopw [7,27] (λs7 s27 wr=>∃ (i:Nat) (Hw:Int) (b:jI),s27=.int .i64 i/\s7=.int .i64 Hw/\i<=T.gO.length/\LpSt T f Hj b2 B w7 sa S fa ra wa gs gf bt bc cc br cr bg cg i Hw b wr) (λ_ s27 _=>T.gO.length-(RowKit.intOf s27).toNat)
 case atStart=>exact⟨0,0,_,rfl,rfl,by omega,Hq.o⟩
 case round=>
  obtain⟨i,Hw,b,rfl,rfl,hi,hS⟩:=hrel;have HS:=zh hS;clear hS Hq;by_cases Hf:i<T.gO.length
  . have hz:(i:Int)<(T.gO.length:Int):=by omega
    have Xf:=zW i (by omega);have Ha:=HS.o.rest;obtain⟨n',VL⟩:∃ n',T.gO.length-i=n'+1:=⟨T.gO.length-i-1,by omega⟩;rw[VL,bZ] at Ha;have xo:n'=T.gO.length-(i+1):=by omega
    rw[xo] at Ha;have OJ:∃ x,T.rU[i]?=some x/\T.rU.getD i 0=x:=by
     have hl:i<T.rU.length:=by rw[HT.o.rules];exact Hf
     exact⟨T.rU[i],zLe hl,by rw[zLf,zLe hl];rfl⟩
    obtain⟨rx,Ci,Cj⟩:=OJ;rw[Cj] at Ha;have k0:=aB _ _ 0 _ _ _ HS.o.aQ.ht;have k1:=HS.o.tab.c1;have k2:=HS.o.tab.rU i rx Ci;have k3:=aB _ _ 0 _ _ _ HS.o.aQ.hs;have k4:=aE HS.o.aQ.rs i _ (fG (by rw[HS.o.ls];exact Hf));have k5:=aB _ _ 0 _ _ _ HS.o.aQ.hf;have lk0:=aA HS.o.aQ.ht;have lwr:=HS.o.below.size;simp only[zLa,zLb] at k0 k3 k5;have G9:(i:Int)<(T.rU.length:Int):=by rw[HT.o.rules];omega
    clear VL xo Ci Cj;by_cases Jz:0<i/\rx<0
    . rw[zP Jz] at Ha
      have XI:=zh Ha;have tF:(0:Int)<(i:Int):=by omega
      have Z5:=Jz.2;clear Ha Jz;go_wp2_with (fail);go_roundw
      case rel=>exact⟨i+1,Hw,b,by go_num,rfl,by omega,⟨HS.o.aQ,HS.o.tab,XI.o,HS.o.ls,HS.o.lf,HS.o.nn,HS.o.best0,HS.o.below⟩⟩
      case measure=>(simp[zI]<;>omega)
    rw[zN Jz] at Ha
    obtain⟨st,Hl⟩:=zE (b.state.getD i 0);rw[<-Hl] at Ha k4;have hcut:(i=0/\¬ (0:Int)<(i:Int))\/((0:Int)<(i:Int)/\¬ rx<0):=by omega
    clear Jz Hl;by_cases ky:st=0
    . rw[zP ky] at Ha
      subst ky;cases Il:iU T f i b with
      | none=>rw[Il] at Ha;cases Ha
      | some b9=>
      rw[Il] at Ha;simp only at Ha;have XI:=zh Ha;have Ga:∀ j,b9.far.getD j 0<=1000000:=λj=>by
       have h1:=nB _ _ _ _ _ _ Ha;exact Int.le_trans (h1.2.2 j) (Y4.o j)
      have Hh:=walk_any T R HT.o f i b b9 B wr sa S fa ra wa gs gf bt bc cc br cr bg cg Il HS.o.aQ HS.o.tab Hf HS.o.ls HS.o.lf HS.o.nn Ga;have SR:=(nG (T:=T) f).1 _ _ _ Il;have uu:=zh SR;have qi:=zh Hh;have w0:=aB _ _ 0 _ _ _ HS.o.aQ.hw;simp only[zLa,zLb] at w0;clear Hh Il Ga Ha SR
      rcases hcut with⟨NE,hc⟩|⟨hc,UX⟩
      . have Wi:=zh NE
        clear NE;go_upto_region 13 with (fail)
        refine qi.o.mono ?_;rintro e w8 ⟨rfl,PV,Yr⟩;have QA:=zh (show BAt B w8 sa S fa ra wa gs gf bt T.gO.length b9/\iW B w8 bt T bc cc br cr bg cg/\Below B w7 w8/\b9.state.length=T.gO.length/\b9.far.length=T.gO.length/\(∀ j,0<=b9.far.getD j 0)/\True from
         ⟨PV,HS.o.tab.below Yr,HS.o.below.trans Yr,uu.o.1.trans HS.o.ls,uu.o.2.1.trans HS.o.lf,λj=>Int.le_trans (HS.o.nn j) (uu.o.2.2 j),trivial⟩)
        clear PV Yr k0 k1 k2 k3 k4 k5 lk0 w0;have Ys:0<=b9.far.getD i 0/\b9.far.getD i 0<=1000000:=⟨QA.o.2.2.2.2.2.1 i,by
         have h1:=nB _ _ _ _ _ _ XI.o;exact Int.le_trans (h1.2.2 i) (Y4.o i)⟩
        have x0:=aB _ _ 0 _ _ _ QA.o.1.hf;simp only[zLa,zLb] at x0;have x1:=aE QA.o.1.rf i _ (fG (by rw[QA.o.2.2.2.2.1];exact Hf));obtain⟨Fi,Vu⟩:=zE (b9.far.getD i 0);rw[<-Vu] at x1 Ys;have VA:=HS.o.best0;have px:=zh (show bZ T f (T.gO.length-(i+1)) (i+1) (max Hw Fi) b9=some (Hj,b2) by rw[Vu];exact XI.o);clear Vu;go_wp2_with (fail);go_roundw
        case rel=>exact⟨i+1,max Hw Fi,b9,by go_num,rfl,by omega,⟨QA.o.1,QA.o.2.1,px.o,QA.o.2.2.2.1,QA.o.2.2.2.2.1,QA.o.2.2.2.2.2.1,by omega,QA.o.2.2.1⟩⟩
        case measure=>(simp[zI]<;>omega)
      go_upto_region 13 with (fail)
      refine qi.o.mono ?_;rintro e w8 ⟨rfl,PV,Yr⟩;have QA:=zh (show BAt B w8 sa S fa ra wa gs gf bt T.gO.length b9/\iW B w8 bt T bc cc br cr bg cg/\Below B w7 w8/\b9.state.length=T.gO.length/\b9.far.length=T.gO.length/\(∀ j,0<=b9.far.getD j 0)/\True from
       ⟨PV,HS.o.tab.below Yr,HS.o.below.trans Yr,uu.o.1.trans HS.o.ls,uu.o.2.1.trans HS.o.lf,λj=>Int.le_trans (HS.o.nn j) (uu.o.2.2 j),trivial⟩)
      clear PV Yr k0 k1 k2 k3 k4 k5 lk0 w0;have Ys:0<=b9.far.getD i 0/\b9.far.getD i 0<=1000000:=⟨QA.o.2.2.2.2.2.1 i,by
       have h1:=nB _ _ _ _ _ _ XI.o;exact Int.le_trans (h1.2.2 i) (Y4.o i)⟩
      have x0:=aB _ _ 0 _ _ _ QA.o.1.hf;simp only[zLa,zLb] at x0;have x1:=aE QA.o.1.rf i _ (fG (by rw[QA.o.2.2.2.2.1];exact Hf));obtain⟨Fi,Vu⟩:=zE (b9.far.getD i 0);rw[<-Vu] at x1 Ys;have VA:=HS.o.best0;have px:=zh (show bZ T f (T.gO.length-(i+1)) (i+1) (max Hw Fi) b9=some (Hj,b2) by rw[Vu];exact XI.o);clear Vu;go_wp2_with (fail);go_roundw
      case rel=>exact⟨i+1,max Hw Fi,b9,by go_num,rfl,by omega,⟨QA.o.1,QA.o.2.1,px.o,QA.o.2.2.2.1,QA.o.2.2.2.2.1,QA.o.2.2.2.2.2.1,by omega,QA.o.2.2.1⟩⟩
      case measure=>(simp[zI]<;>omega)
    rw[zN ky] at Ha
    simp only at Ha;obtain⟨b9,kj⟩:∃ b9:jI,b9=b:=⟨_,rfl⟩;rw[<-kj] at Ha;have XI:=zh Ha;have QA:=zh (show BAt B wr sa S fa ra wa gs gf bt T.gO.length b9/\iW B wr bt T bc cc br cr bg cg/\Below B w7 wr/\b9.state.length=T.gO.length/\b9.far.length=T.gO.length/\(∀ j,0<=b9.far.getD j 0)/\True from
     by rw[kj];exact⟨HS.o.aQ,HS.o.tab,HS.o.below,HS.o.ls,HS.o.lf,HS.o.nn,trivial⟩)
    clear Ha kj
    rcases hcut with⟨NE,hc⟩|⟨hc,UX⟩
    . have Wi:=zh NE
      clear NE;have Ys:0<=b9.far.getD i 0/\b9.far.getD i 0<=1000000:=⟨QA.o.2.2.2.2.2.1 i,by
       have h1:=nB _ _ _ _ _ _ XI.o;exact Int.le_trans (h1.2.2 i) (Y4.o i)⟩
      have x0:=aB _ _ 0 _ _ _ QA.o.1.hf;simp only[zLa,zLb] at x0;have x1:=aE QA.o.1.rf i _ (fG (by rw[QA.o.2.2.2.2.1];exact Hf));obtain⟨Fi,Vu⟩:=zE (b9.far.getD i 0);rw[<-Vu] at x1 Ys;have VA:=HS.o.best0;have px:=zh (show bZ T f (T.gO.length-(i+1)) (i+1) (max Hw Fi) b9=some (Hj,b2) by rw[Vu];exact XI.o);clear Vu;go_wp2_with (fail);go_roundw
      case rel=>exact⟨i+1,max Hw Fi,b9,by go_num,rfl,by omega,⟨QA.o.1,QA.o.2.1,px.o,QA.o.2.2.2.1,QA.o.2.2.2.2.1,QA.o.2.2.2.2.2.1,by omega,QA.o.2.2.1⟩⟩
      case measure=>(simp[zI]<;>omega)
    skip
    have Ys:0<=b9.far.getD i 0/\b9.far.getD i 0<=1000000:=⟨QA.o.2.2.2.2.2.1 i,by
     have h1:=nB _ _ _ _ _ _ XI.o;exact Int.le_trans (h1.2.2 i) (Y4.o i)⟩
    have x0:=aB _ _ 0 _ _ _ QA.o.1.hf;simp only[zLa,zLb] at x0;have x1:=aE QA.o.1.rf i _ (fG (by rw[QA.o.2.2.2.2.1];exact Hf));obtain⟨Fi,Vu⟩:=zE (b9.far.getD i 0);rw[<-Vu] at x1 Ys;have VA:=HS.o.best0;have px:=zh (show bZ T f (T.gO.length-(i+1)) (i+1) (max Hw Fi) b9=some (Hj,b2) by rw[Vu];exact XI.o);clear Vu;go_wp2_with (fail);go_roundw
    case rel=>exact⟨i+1,max Hw Fi,b9,by go_num,rfl,by omega,⟨QA.o.1,QA.o.2.1,px.o,QA.o.2.2.2.1,QA.o.2.2.2.2.1,QA.o.2.2.2.2.2.1,by omega,QA.o.2.2.1⟩⟩
    case measure=>(simp[zI]<;>omega)
  have hz:¬ (i:Int)<(T.gO.length:Int):=by omega
  have Ha:=HS.o.rest;rw[show T.gO.length-i=0 by omega,bZ] at Ha;cases Ha;have r0:=aB _ _ 0 _ _ _ HS.o.aQ.hr;simp only[zLa,zLb] at r0;have VA:=HS.o.best0;have O7:IntKind.i64.wrap (Hj+1)=Hj+1:=zIn _ (by omega);have Ph:Below w.heap.size w wr:=by
   have h1:=HS.o.below;rw[tI.o] at h1;exact Yo.o.trans h1
  cases NX:b2.round with
  | true=>
   rw[NX] at r0;have mi:=zh NX;clear NX;go_wp2_with (fail)
   all_goals (go_ret;refine⟨?_,Ph⟩;first|rfl|(simp[Act.eval];done)|(have hq:=mi.o;simp_all;done))
  | false=>
   rw[NX] at r0;have mi:=zh NX;clear NX;go_wp2_with (fail)
   all_goals (go_ret;refine⟨?_,Ph⟩;first|rfl|(simp[Act.eval];done)|(have hq:=mi.o;simp_all;done))
open Go.WideMaps (KeyLaw ArrKey keyOf_pair)
open Go.ChangeMaps (setBlock heap_setBlock_same)
theorem setLaid:laidOutB Tryz.prog=true:=by kernel_rfl
theorem setRow:(147:TypeId)<Tryz.prog.types.size:=of_decide_eq_true (by kernel_rfl)
theorem setArr:ArrKey Tryz.prog 147 145 2:=⟨Tryz.underlying147,by kernel_rfl,by kernel_rfl,by kernel_rfl⟩
theorem zds:KeyLaw Tryz.prog 147:=deep_law_laid setLaid (m:=2) (by omega) setRow (by kernel_rfl) (by rw[Tryz.underlying147])
theorem setWf (a:Nat) (h:a<W64):(Lit.int .u64 (a:Int)).wf=true:=by
 have h0:IntKind.u64.min=0:=by decide
 have h1:IntKind.u64.max=18446744073709551615:=by decide
 simp[Lit.wf,W64,h0,h1] at*;omega
theorem setKey (s:aW) (h:s.Ok):∃ l,keyOf Tryz.prog 147 (nY s)=some l:=
 ⟨_,keyOf_pair setArr Tryz.underlying145 ⟨_,rfl⟩ (setWf s.1 h.1) (setWf s.2 h.2)⟩
theorem ze6 {o:aW} (h:nY s=nY o):s=o:=by
 unfold nY at h;simp only[Value.agg.injEq,Array.mk.injEq,List.cons.injEq,Value.int.injEq,true_and,and_true] at h;exact Prod.ext (by omega) (by omega)
def yZ (w:World) (b:Nat) (sE:List aW):Prop:=∃ es clock,w.heap[b]?=some (.map es clock)/\es.size=sE.length/\∀ (j:Nat) (e:MapEntry),es.toList[j]?=some e->∃ s,sE[j]?=some s/\e.key=nY s/\e.val=.int .i64 j
theorem yZ.keys {es:Array MapEntry} (Hv:∀ s∈sE,s.Ok) (h:∀ (j:Nat) (e:MapEntry),es.toList[j]?=some e->∃ s,sE[j]?=some s/\e.key=nY s/\e.val=.int .i64 j):∀ e∈es.toList,∃ l,keyOf Tryz.prog 147 e.key=some l:=by
 intro e he;obtain⟨j,hj⟩:=List.getElem?_of_mem he;obtain⟨s,hs,hk,_⟩:=h j e hj;rw[hk];exact setKey s (Hv s (zM hs))
theorem zero_int (w:World):(zeroValue 3).run Tryz.prog w=.ok (.int .i64 0) w:=by kernel_rfl
theorem map_look (h:yZ w b sE) (Hv:∀ s∈sE,s.Ok) (TK:sE.Nodup) (to':aW) (ht:to'.Ok):
 (Instr.lookup 154 (.map (some b)) (nY to') true).run Tryz.prog w=.ok (.tuple #[.int .i64 (((sE.findIdx? (λx=>decide (x=to'))).getD 0:Nat):Int),.bool (sE.findIdx? (λx=>decide (x=to'))).isSome]) w:=by
 obtain⟨es,clock,hb,Qc,dv⟩:=h;obtain⟨kl,Tg⟩:=setKey to' ht;have hu:=Tryz.underlying154
 rcases zds.find w Tg es.toList (yZ.keys Hv dv) with⟨h1,h2⟩|⟨j,e0,h1,h2,h3⟩
 . have GX:sE.findIdx? (λx=>decide (x=to'))=none:=by
    rw[List.findIdx?_eq_none_iff];intro x hx;rw[decide_eq_false_iff_not];intro e;obtain⟨j,hj⟩:=List.getElem?_of_mem hx;have Hf:j<es.size:=by rw[Qc];exact (List.getElem?_eq_some_iff.1 hj).1
    obtain⟨s,hs,hk,_⟩:=dv j es[j] (by simp[Hf]);rw[hj] at hs;cases hs;exact h2 es[j] (by simp) (by rw[hk,e])
   rw[GX];simp[Instr.lookup,run_underlying hu,MapKept.run_getObj_map hb,zds.check w _ Tg,h1,zero_int,Result.andThen]
 obtain⟨s,hs,hk,hv⟩:=dv j e0 h2
 have Hl:s=to':=ze6 (by rw[<-hk,h3]);subst Hl;have ip:sE.findIdx? (λx=>decide (x=s))=some j:=by
  obtain⟨Yb,UH⟩:=List.getElem?_eq_some_iff.1 hs;rw[List.findIdx?_eq_some_iff_getElem];refine⟨Yb,by simp[UH],λi hi=> ?_⟩;rw[decide_eq_true_eq];intro e;exact absurd (e.trans UH.symm) ((List.pairwise_iff_getElem.1 TK) i j (by omega) Yb hi)
 rw[ip];simp[Instr.lookup,run_underlying hu,MapKept.run_getObj_map hb,zds.check w _ Tg,h1,hv,Result.andThen]
theorem map_put (h:yZ w b sE) (Hv:∀ s∈sE,s.Ok) (to':aW) (ht:to'.Ok) (XW:sE.findIdx? (λx=>decide (x=to'))=none):
 ∃ w',(Instr.mapUpdate 154 (.map (some b)) (nY to') (.int .i64 (sE.length:Int))).run Tryz.prog w=.ok () w'/\yZ w' b (sE++[to'])/\w.grownBy w' (some b):=by
 obtain⟨es,clock,hb,Qc,dv⟩:=h;obtain⟨kl,Tg⟩:=setKey to' ht;have hu:=Tryz.underlying154;rw[List.findIdx?_eq_none_iff] at XW
 rcases zds.find w Tg es.toList (yZ.keys Hv dv) with⟨h1,h2⟩|⟨j,e0,h1,h2,h3⟩
 . refine⟨setBlock w b (.map (es.push ⟨nY to',.int .i64 (sE.length:Int),clock⟩) (clock+1)),?_,⟨_,_,heap_setBlock_same hb _,by simp[Qc],λj e he=> ?_⟩,⟨rfl,rfl,rfl,by simp[setBlock],λi _ hi=>Go.ChangeMaps.heap_setBlock_other hb _ (λe=>hi (by rw[e]))⟩⟩
   . simp[Instr.mapUpdate,run_underlying hu,MapKept.run_getObj_map hb,zds.check w _ Tg,h1,MapKept.run_setObj_map _ hb,Result.andThen,setBlock]
   rw[Array.toList_push] at he
   rcases zLg j es.size with hl|hl
   . rw[zGl (by simpa using hl)] at he
     obtain⟨s,h1,h2,h3⟩:=dv j e he;exact⟨s,by rw[zGl (by omega)];exact h1,h2,h3⟩
   rw[zGr (by simpa using hl)] at he
   have hj:j=es.size:=by
    rcases Nat.eq_zero_or_pos (j-es.toList.length) with h0|h0
    . simp at h0;omega
    rw[zGn (by simp at*;omega)] at he;cases he
   subst hj;simp at he;subst he;exact⟨to',by rw[Qc];simp,rfl,by rw[Qc]⟩
 exfalso
 obtain⟨s,hs,hk,hv⟩:=dv j e0 h2;have Hl:s=to':=ze6 (by rw[<-hk,h3]);have:=XW s (zM hs);simp[Hl] at this
theorem map_new (w:World):yZ (w.alloc (.map #[] 0)) w.heap.size []:=⟨#[],0,by rw[aN,zP rfl],rfl,λj e he=>by simp at he⟩
theorem yZ.kept (h:yZ w b sE) (hx:w'.heap[b]?=w.heap[b]?):yZ w' b sE:=by
 obtain⟨es,clock,h1,h2,h3⟩:=h;exact⟨es,clock,hx.trans h1,h2,h3⟩
end
section
open Go.RowKit Go.Lib
theorem zb1:eY Tryz.prog 74 39 1 24:=eY.of (z:=.slice none 0 0) Tryz.underlying74 (by kernel_rfl) rfl (by decide)
theorem zdq (l r:List aW):setCells (l++r)=setCells l++setCells r:=by simp[setCells]
theorem make_sets (n:Nat) (hn:n<=1000000) (w:World):(Instr.makeSlice 130 (.int .i64 (n:Int)) (.int .i64 (n:Int))).run Tryz.prog w=.ok (.slice (some ⟨w.heap.size,0,none⟩) n n) (w.alloc (.cells (setCells (List.replicate n (0,0))).toArray 147)):=by
 obtain⟨i,h1,h2,h3,h4⟩:=info_parts (P:=Tryz.prog) (e:=147) (z:=.agg #[.int .u64 0,.int .u64 0]) (size:=2) (bytes:=16) (by kernel_rfl);have h:=run_makeSlice w 130 147 i (.agg #[.int .u64 0,.int .u64 0]) Tryz.underlying130 h1 h2 .i64 .i64 n n (by omega) (Int.le_refl _) (by rw[h3];simp;omega) (by rw[h4];omega) (by omega);have e:madeCells (Value.agg #[.int .u64 0,.int .u64 0]).cells (n*2)=(setCells (List.replicate n (0,0))).toArray:=by
  apply Array.ext';have e1:∀ k,(setCells (List.replicate k (0,0)))=List.replicate (k*2) (.int .u64 0):=by
   intro k
   induction k with
   | zero=>rfl
   | succ k ih=>
    rw[List.replicate_succ,show (k+1)*2=k*2+1+1 by omega,List.replicate_succ,List.replicate_succ,<-ih];rfl
  rw[e1];refine List.eq_replicate_iff.2 ⟨by simp[size_madeCells],λx hx=> ?_⟩;simp only[madeCells,Array.toList_map,List.mem_map] at hx;obtain⟨i,_,rfl⟩:=hx
  rcases Nat.mod_two_eq_zero_or_one i with h2|h2
  . show (#[Value.int .u64 0,.int .u64 0]:Array Value)[i%2]! =_
    rw[h2];rfl
  show (#[Value.int .u64 0,.int .u64 0]:Array Value)[i%2]! =_
  rw[h2];rfl
 rw[h,h3,Int.toNat_natCast,e]
theorem zdr (l:List aW) (i:Nat) (s:aW) (h:i<l.length):setCells (l.set i s)=((setCells l).set (2*i) (.int .u64 s.1)).set (2*i+1) (.int .u64 s.2):=by
 induction l generalizing i with
 | nil=>simp at h
 | cons a l ih=>
  have e:∀ (a:aW) (l:List aW),setCells (a::l)=.int .u64 a.1:: .int .u64 a.2::setCells l:=λ_ _=>rfl;cases i with
  | zero=>rfl
  | succ i=>
   rw[List.set_cons_succ,e,e,ih i (by simpa using h),show 2*(i+1)=2*i+1+1 by omega];rfl
theorem lH {a b c:World} (h:Below B a b) (k:Below b.heap.size b c) (hB:B<=b.heap.size):Below B a c:=
 ⟨k.os.trans h.os,k.tape.trans h.tape,k.output.trans h.output,zT h.size k.size,λx hx=>(k.block x (by omega)).trans (h.block x hx)⟩
structure iG (w0:World) (n:Nat) (cU:List Int) (ms:List aW) (tb bc cc mb mp:Nat) (rc:List Value) (tag:Nat->Nat) (sE:List aW) (rU:List Int) (gO:List (List Int)) (vs vr vg:Value) (QS:List Value) (wr:World):Prop where
 pos:0<w0.heap.size
 below:Below w0.heap.size w0 wr
 new:∀ g,tag g≠0->w0.heap.size<=g
 ht:wr.heap[tb]?=some (.cells #[.slice (some ⟨bc,0,none⟩) cU.length cc,vr,vg,.int .i64 0] 76 (0,0))
 fCuts:dQ wr bc cU.toArray rc
 fMs:wr.ownsRow 0 147 2 (.slice (some ⟨mb,0,none⟩) n n) n (setCells ms)
 fMap:yZ wr mp sE
 fSets:wr.ownsRow 0 147 2 vs sE.length (setCells sE)
 fRule:wr.ownsRow 0 3 1 vr rU.length (dE rU)
 fGoes:wr.ownsRow 0 39 1 vg gO.length QS
 rows:∀ (i:Nat) (row:List Int),gO[i]?=some row->∃ g c,QS[i]?=some (.slice (some ⟨g,0,none⟩) row.length c)/\wr.ownsRow 0 3 1 (.slice (some ⟨g,0,none⟩) row.length c) row.length (dE row)/\tag g=6
 t1:tag tb=1
 t2:tag mp=2
 t3:∀ g,vs.ownBlock=some g->tag g=3
 t4:∀ g,vr.ownBlock=some g->tag g=4
 t5:∀ g,vg.ownBlock=some g->tag g=5
 t6:tag bc=6/\tag mb=6
theorem jD.of_below (tag Hd:Nat->Nat) (c b:Nat) (hb:Below w.heap.size w w') (ht:∀ x,x<w.heap.size->Hd x=tag x):jD tag Hd c b w w':=⟨hb.os,hb.tape,hb.output,hb.size,ht,λx hx _ _=>hb.block x hx⟩
theorem jD.of_grown (tag:Nat->Nat) (c b:Nat) (hg:w.grownBy w' (some b)):jD tag tag c b w w':=⟨hg.os,hg.tape,hg.output,hg.size,λ_ _=>rfl,λx hx _ hn=>hg.block x hx (λe=>hn (by cases e;rfl))⟩
theorem xC {tag:Nat->Nat} {e:TypeId} {size m:Nat} {v v':Value} {xs qh:List Value} {c off:Nat} {cells:Array Value} {t:TypeId} (ob:Obj)
 (hb:w.heap[b]?=some (.cells cells t (0,0))) (dg:tag b≠c) (hv:∀ g,v.ownBlock=some g->g<w.heap.size/\tag g=c)
 (Hb:w2.ownsRow 0 e size v' (n+m) (xs++qh)) (hg:(w.alloc ob).grownBy w2 v.ownBlock) (Hz:v'.ownBlock=v.ownBlock\/v'.ownBlock=some (w.alloc ob).heap.size):
 jD tag (dB tag (w.heap.size+1) c) c b w (w2.setCell ⟨b,off,none⟩ v')/\(w2.setCell ⟨b,off,none⟩ v').heap[b]?=some (.cells (cells.setIfInBounds off v') t (0,0))/\
  (w2.setCell ⟨b,off,none⟩ v').ownsRow 0 e size v' (n+m) (xs++qh)/\(∀ g,v'.ownBlock=some g->dB tag (w.heap.size+1) c g=c):=by
 have hB:=(zBr w.heap.size w).alloc (zR _) ob;have Ps:=aA hb;have ye:(w.alloc ob).heap.size=w.heap.size+1:=by simp
 have Qc:w.heap.size+1<=w2.heap.size:=by rw[<-ye];exact hg.size
 have Ku:∀ g,v'.ownBlock=some g->(g<w.heap.size/\tag g=c)\/g=w.heap.size+1:=by
  intro g qn
  rcases Hz with e|e
  . exact .inl (hv g (by rw[<-e];exact qn))
  rw[qn] at e;cases e;exact .inr ye
 have xn:∀ x,x<w.heap.size->tag x≠c->x≠b->(w2.setCell ⟨b,off,none⟩ v').heap[x]?=w.heap[x]?:=by
  intro x hx hc Im;rw[aG _ _ _ _ Im];exact (hg.block x (zLd hx hB.size) (λe=>hc (hv x e.symm).2)).trans (hB.block x hx)
 have Hr:w2.heap[b]?=some (.cells cells t (0,0)):=(hg.block b (zLd Ps hB.size) (λe=>dg (hv b e.symm).2)).trans ((hB.block b Ps).trans hb);refine⟨⟨hg.os.trans hB.os,hg.tape.trans hB.tape,hg.output.trans hB.output,by simp;omega,λx hx=>dC (by omega),xn⟩,aC w2 b off v' _ _ _ Hr,?_,?_⟩
 . refine aU Hb λg qn=>aG _ _ _ _ ?_
   intro e;have e2:g=b:=e
   rcases Ku g qn with⟨h1,h2⟩|h1
   . rw[e2] at h2;exact dg h2
   omega
 intro g qn
 rcases Ku g qn with⟨h1,h2⟩|h1
 . rw[dC (by omega)];exact h2
 rw[h1,jS]
section
variable {w0 w w':World} {n:Nat} {cU:List Int} {ms:List aW} {tb bc cc mb mp:Nat} {rc:List Value} {tag Hd:Nat->Nat} {sE:List aW} {rU:List Int} {gO:List (List Int)} {vs vr vg:Value} {QS:List Value} {c b:Nat}
theorem uL (h:Below w0.heap.size w0 w) (hn:∀ g,tag g≠0->w0.heap.size<=g) (hu:jD tag Hd c b w w') (hc:c≠0) (hb:w0.heap.size<=b):Below w0.heap.size w0 w':=
 ⟨hu.os.trans h.os,hu.tape.trans h.tape,hu.output.trans h.output,zT h.size hu.size,λx hx=>(hu.keep x (zLd hx h.size) (λe=>by have:=hn x (by omega);omega) (by omega)).trans (h.block x hx)⟩
theorem zaW {d:Nat} (hu:jD tag Hd c b w w') (hd:6≠c) (hb:tag b≠6) (h:∀ (i:Nat) (row:List Int),gO[i]?=some row->∃ g c,QS[i]?=some (.slice (some ⟨g,0,none⟩) row.length c)/\w.ownsRow 0 3 1 (.slice (some ⟨g,0,none⟩) row.length c) row.length (dE row)/\tag g=6):
 ∀ (i:Nat) (row:List Int),gO[i]?=some row->∃ g c,QS[i]?=some (.slice (some ⟨g,0,none⟩) row.length c)/\w'.ownsRow 0 3 1 (.slice (some ⟨g,0,none⟩) row.length c) row.length (dE row)/\Hd g=6:=λi row hr=>by
 obtain⟨g,cp,h1,h2,h3⟩:=h i row hr;have r:=hu.row h2 (d:=6) (λg' QE=>by cases QE;exact h3) hd hb;exact⟨g,cp,h1,r.1,r.2 g rfl⟩
theorem iG.next (h:iG w0 n cU ms tb bc cc mb mp rc tag sE rU gO vs vr vg QS w) (hu:jD tag Hd c b w w') (hn:∀ g,Hd g≠0->w0.heap.size<=g) (hc:7<=c) (hb:tag b=0\/7<=tag b) (Hz:Below w0.heap.size w0 w'):iG w0 n cU ms tb bc cc mb mp rc Hd sE rU gO vs vr vg QS w':=by
 have own:∀ {v:Value} {e:TypeId} {size k:Nat} {xs:List Value} {d:Nat},w.ownsRow 0 e size v k xs->(∀ g,v.ownBlock=some g->tag g=d)->0<d->d<7->w'.ownsRow 0 e size v k xs/\∀ g,v.ownBlock=some g->Hd g=d:=
  λhr ht h0 hd=>hu.row hr ht (by omega) (by omega)
 have ne:∀ x d,tag x=d->0<d->d<7->x≠b:=λx d hx h0 h7 e=>by rw[e] at hx;omega
 have blk:∀ {x:Nat} {o:Obj} {d:Nat},w.heap[x]?=some o->tag x=d->0<d->d<7->w'.heap[x]?=some o/\Hd x=d:=λhx hd h0 h7=>by
  have:=hu.blk hx (by omega) (ne _ _ hd h0 h7);exact⟨this.1,this.2.trans hd⟩
 have b1:=blk h.ht h.t1 (by decide) (by decide);have b6:=blk h.fCuts h.t6.1 (by decide) (by decide);have r6:=own h.fMs (d:=6) (λg hg=>by cases hg;exact h.t6.2) (by decide) (by decide);have r3:=own h.fSets h.t3 (by decide) (by decide);have r4:=own h.fRule h.t4 (by decide) (by decide);have r5:=own h.fGoes h.t5 (by decide) (by decide);obtain⟨es,clock,hm,_,_⟩:=h.fMap;have b2:=blk hm h.t2 (by decide) (by decide)
 exact⟨h.pos,Hz,hn,b1.1,b6.1,r6.1,h.fMap.kept (b2.1.trans hm.symm),r3.1,r4.1,r5.1,zaW (d:=0) hu (by omega) (by omega) h.rows,b1.2,b2.2,r3.2,r4.2,r5.2,⟨b6.2,r6.2 mb rfl⟩⟩
theorem iG.tag0 (h:iG w0 n cU ms tb bc cc mb mp rc tag sE rU gO vs vr vg QS w):tag 0=0:=by
 rcases Nat.eq_zero_or_pos (tag 0) with h0|h0
 . exact h0
 have:=h.new 0 (by omega);have:=h.pos;omega
theorem iG.later (h:iG w0 n cU ms tb bc cc mb mp rc tag sE rU gO vs vr vg QS w) (hb:Below w.heap.size w w'):iG w0 n cU ms tb bc cc mb mp rc tag sE rU gO vs vr vg QS w':=
 h.next (c:=9) (b:=0) (jD.of_below tag tag 9 _ hb (λ_ _=>rfl)) h.new (by omega) (.inl h.tag0) (lH h.below hb h.below.size)
theorem iG.other (h:iG w0 n cU ms tb bc cc mb mp rc tag sE rU gO vs vr vg QS w) (g:Nat) (hg:7<=tag g) (hw:w.grownBy w' (some g)):iG w0 n cU ms tb bc cc mb mp rc tag sE rU gO vs vr vg QS w':=
 h.next (c:=tag g) (b:=g) (jD.of_grown tag (tag g) g hw) h.new hg (.inr hg) (uL h.below h.new (jD.of_grown tag (tag g) g hw) (by omega) (h.new g (by omega)))
theorem iG.mark (h:iG w0 n cU ms tb bc cc mb mp rc tag sE rU gO vs vr vg QS w) (hb:Below w.heap.size w w') (g d:Nat) (hg:w.heap.size<=g) (hd:7<=d):iG w0 n cU ms tb bc cc mb mp rc (dB tag g d) sE rU gO vs vr vg QS w':=
 h.next (c:=9) (b:=0) (jD.of_below tag _ 9 _ hb (λx hx=>dC (by omega))) (λx hx=>by
  by_cases e:x=g
  . have:=h.below.size;omega
  rw[dC e] at hx;exact h.new x hx) (by omega) (.inl h.tag0) (lH h.below hb h.below.size)
theorem iG.put (h:iG w0 n cU ms tb bc cc mb mp rc tag sE rU gO vs vr vg QS w) (to':aW) (hg:w.grownBy w' (some mp)) (hm:yZ w' mp (sE++[to'])):
 ∀ (w2:World) (Qd:Nat->Nat) (v':Value),jD tag Qd 3 mp w' w2->(∀ g,Qd g≠0->w0.heap.size<=g)->w2.ownsRow 0 147 2 v' (sE.length+1) (setCells sE++[.int .u64 to'.1,.int .u64 to'.2])->(∀ g,v'.ownBlock=some g->Qd g=3)->w2.heap[mp]?=w'.heap[mp]?->
 iG w0 n cU ms tb bc cc mb mp rc Qd (sE++[to']) rU gO v' vr vg QS w2:=by
 intro w2 Qd v' hu hn Hb VX Ep;have Tu:jD tag tag 2 mp w w':=jD.of_grown tag 2 mp hg;have ne:∀ x d,tag x=d->d≠2->x≠mp:=λx d hx hd e=>by rw[e,h.t2] at hx;omega
 have b1:=Tu.blk h.ht (by rw[h.t1];decide) (ne _ _ h.t1 (by decide));have b6:=Tu.blk h.fCuts (by rw[h.t6.1];decide) (ne _ _ h.t6.1 (by decide));have r6:=Tu.row h.fMs (d:=6) (λg hg=>by cases hg;exact h.t6.2) (by decide) (by rw[h.t2];decide);have r4:=Tu.row h.fRule h.t4 (by decide) (by rw[h.t2];decide);have r5:=Tu.row h.fGoes h.t5 (by decide) (by rw[h.t2];decide);have c1:=hu.blk b1.1 (by rw[h.t1];decide) (ne _ _ h.t1 (by decide));have c6:=hu.blk b6.1 (by rw[h.t6.1];decide) (ne _ _ h.t6.1 (by decide))
 have s6:=hu.row r6.1 r6.2 (by decide) (by rw[h.t2];decide);have s4:=hu.row r4.1 r4.2 (by decide) (by rw[h.t2];decide);have s5:=hu.row r5.1 r5.2 (by decide) (by rw[h.t2];decide);have rows:=zaW (d:=0) hu (by decide) (by rw[h.t2];decide) (zaW (d:=0) Tu (by decide) (by rw[h.t2];decide) h.rows);have GO:w0.heap.size<=mp:=h.new mp (by rw[h.t2];decide);have YB:=uL h.below h.new Tu (by decide) GO;have Xn:=uL YB h.new hu (by decide) GO;have Lf:=hm;obtain⟨es,clock,Kp,_,_⟩:=hm
 have el:(sE++[to']).length=sE.length+1:=by simp
 exact⟨h.pos,Xn,hn,c1.1,c6.1,s6.1,Lf.kept Ep,by rw[el,zdq];exact Hb,s4.1,s5.1,rows,c1.2.trans h.t1,(hu.tags mp (aA Kp)).trans h.t2,VX,s4.2,s5.2,⟨c6.2.trans h.t6.1,s6.2 mb rfl⟩⟩
theorem iG.fI (h:iG w0 n cU ms tb bc cc mb mp rc tag sE rU gO vs vr vg QS w) (g:Nat) (hg:tag g=7):iG w0 n cU ms tb bc cc mb mp rc (dB tag g 6) sE rU gO vs vr vg QS w:=by
 have k:∀ x d,tag x=d->d≠7->dB tag g 6 x=d:=λx d hx hd=>by rw[dC (λe=>by rw[e,hg] at hx;omega)];exact hx
 refine⟨h.pos,h.below,λx hx=> ?_,h.ht,h.fCuts,h.fMs,h.fMap,h.fSets,h.fRule,h.fGoes,λi row hr=> ?_,k _ _ h.t1 (by decide),k _ _ h.t2 (by decide),λx hx=>k _ _ (h.t3 x hx) (by decide),λx hx=>k _ _ (h.t4 x hx) (by decide),λx hx=>k _ _ (h.t5 x hx) (by decide),⟨k _ _ h.t6.1 (by decide),k _ _ h.t6.2 (by decide)⟩⟩
 . by_cases e:x=g
   . exact h.new x (by rw[e,hg];decide)
   rw[dC e] at hx;exact h.new x hx
 obtain⟨b,c,h1,h2,h3⟩:=h.rows i row hr
 exact⟨b,c,h1,h2,k _ _ h3 (by decide)⟩
theorem iG.pushGoes (h:iG w0 n cU ms tb bc cc mb mp rc tag sE rU gO vs vr vg QS w) (row:List Int) (rb cp:Nat) (hr:w.ownsRow 0 3 1 (.slice (some ⟨rb,0,none⟩) row.length cp) row.length (dE row)) (VY:tag rb=6) (hu:jD tag Hd 5 tb w w') (hn:∀ g,Hd g≠0->w0.heap.size<=g) (v':Value)
 (hl:w'.heap[tb]?=some (.cells #[.slice (some ⟨bc,0,none⟩) cU.length cc,vr,v',.int .i64 0] 76 (0,0))) (Hb:w'.ownsRow 0 39 1 v' (gO.length+1) (QS++[.slice (some ⟨rb,0,none⟩) row.length cp])) (ht:∀ g,v'.ownBlock=some g->Hd g=5):
 iG w0 n cU ms tb bc cc mb mp rc Hd sE rU (gO++[row]) vs vr v' (QS++[.slice (some ⟨rb,0,none⟩) row.length cp]) w':=by
 have ne:∀ x d,tag x=d->d≠1->x≠tb:=λx d hx hd e=>by rw[e,h.t1] at hx;omega
 have b6:=hu.blk h.fCuts (by rw[h.t6.1];decide) (ne _ _ h.t6.1 (by decide));have r6:=hu.row h.fMs (d:=6) (λg hg=>by cases hg;exact h.t6.2) (by decide) (by rw[h.t1];decide);have r3:=hu.row h.fSets h.t3 (by decide) (by rw[h.t1];decide);have r4:=hu.row h.fRule h.t4 (by decide) (by rw[h.t1];decide);have rr:=hu.row hr (d:=6) (λg hg=>by cases hg;exact VY) (by decide) (by rw[h.t1];decide);have rows:=zaW (d:=0) hu (by decide) (by rw[h.t1];decide) h.rows;obtain⟨es,clock,hm,_,_⟩:=h.fMap
 have b2:=hu.blk hm (by rw[h.t2];decide) (ne _ _ h.t2 (by decide));have el:(gO++[row]).length=gO.length+1:=by simp
 have gl:QS.length=gO.length:=by have:=h.fGoes.1;simpa using this
 refine⟨h.pos,uL h.below h.new hu (by decide) (h.new tb (by rw[h.t1];decide)),hn,hl,b6.1,r6.1,h.fMap.kept (b2.1.trans hm.symm),r3.1,r4.1,by rw[el];exact Hb,?_,(hu.tags tb (aA h.ht)).trans h.t1,b2.2.trans h.t2,r3.2,r4.2,ht,⟨b6.2.trans h.t6.1,r6.2 mb rfl⟩⟩;intro i x hx
 rcases zLg i gO.length with hi|hi
 . rw[zGl hi] at hx
   obtain⟨g,c,h1,h2,h3⟩:=rows i x hx;exact⟨g,c,by rw[zGl (by rw[gl];exact hi)];exact h1,h2,h3⟩
 rw[zGr hi] at hx
 have yn:i=gO.length:=by
  rcases zLg (i-gO.length) 1 with h1|h1
  . omega
  rw[zGn (by simpa using h1)] at hx;cases hx
 subst yn;simp at hx;subst hx;exact⟨rb,cp,by rw[<-gl];simp,rr.1,rr.2 rb rfl⟩
theorem iG.pushRule (h:iG w0 n cU ms tb bc cc mb mp rc tag sE rU gO vs vr vg QS w) (x:Int) (hu:jD tag Hd 4 tb w w') (hn:∀ g,Hd g≠0->w0.heap.size<=g) (v':Value)
 (hl:w'.heap[tb]?=some (.cells #[.slice (some ⟨bc,0,none⟩) cU.length cc,v',vg,.int .i64 0] 76 (0,0))) (Hb:w'.ownsRow 0 3 1 v' (rU.length+1) (dE rU++[.int .i64 x])) (ht:∀ g,v'.ownBlock=some g->Hd g=4):
 iG w0 n cU ms tb bc cc mb mp rc Hd sE (rU++[x]) gO vs v' vg QS w':=by
 have ne:∀ x d,tag x=d->d≠1->x≠tb:=λx d hx hd e=>by rw[e,h.t1] at hx;omega
 have b6:=hu.blk h.fCuts (by rw[h.t6.1];decide) (ne _ _ h.t6.1 (by decide));have r6:=hu.row h.fMs (d:=6) (λg hg=>by cases hg;exact h.t6.2) (by decide) (by rw[h.t1];decide);have r3:=hu.row h.fSets h.t3 (by decide) (by rw[h.t1];decide);have r5:=hu.row h.fGoes h.t5 (by decide) (by rw[h.t1];decide);have rows:=zaW (d:=0) hu (by decide) (by rw[h.t1];decide) h.rows;obtain⟨es,clock,hm,_,_⟩:=h.fMap;have b2:=hu.blk hm (by rw[h.t2];decide) (ne _ _ h.t2 (by decide));have el:(rU++[x]).length=rU.length+1:=by simp
 exact⟨h.pos,uL h.below h.new hu (by decide) (h.new tb (by rw[h.t1];decide)),hn,hl,b6.1,r6.1,h.fMap.kept (b2.1.trans hm.symm),r3.1,by rw[el];unfold dE at*;rw[List.map_append];exact Hb,r5.1,rows,(hu.tags tb (aA h.ht)).trans h.t1,b2.2.trans h.t2,r3.2,ht,r5.2,⟨b6.2.trans h.t6.1,r6.2 mb rfl⟩⟩
theorem iG.putApp {gs cs:Nat} (h:iG w0 n cU ms tb bc cc mb mp rc tag sE rU gO (.slice (some ⟨gs,0,none⟩) sE.length cs) vr vg QS w) (to':aW) {w1:World} (hg:w.grownBy w1 (some mp)) (hm:yZ w1 mp (sE++[to'])) (ob:Obj) (v':Value)
 (Hb:w2.ownsRow 0 147 2 v' (sE.length+1) (setCells sE++[.int .u64 to'.1,.int .u64 to'.2])) (QJ:(w1.alloc ob).grownBy w2 (some gs)) (Hz:v'.ownBlock=some gs\/v'.ownBlock=some (w1.alloc ob).heap.size):
 iG w0 n cU ms tb bc cc mb mp rc (dB tag (w1.heap.size+1) 3) (sE++[to']) rU gO v' vr vg QS w2/\∀ b,b<w.heap.size->b≠mp->tag b≠3->w2.heap[b]?=w.heap[b]?/\dB tag (w1.heap.size+1) 3 b=tag b:=by
 have tgs:tag gs=3:=h.t3 gs rfl;have lgs:=(h.fSets.lt gs rfl).2;have hB:=(zBr w1.heap.size w1).alloc (zR _) ob;have ye:(w1.alloc ob).heap.size=w1.heap.size+1:=by simp
 have hk:∀ b,b<w1.heap.size->b≠gs->w2.heap[b]?=w1.heap[b]?:=λb hb hn=>(QJ.block b (by omega) (λe=>hn (by cases e;rfl))).trans (hB.block b hb);have Qc:=QJ.size;have Ep:mp≠gs:=λe=>by have:=h.t2;rw[e,tgs] at this;cases this
 obtain⟨es,clock,Kp,_,_⟩:=h.fMap;have lmp:=aA Kp;have Xe:=hg.size;have hu:jD tag (dB tag (w1.heap.size+1) 3) 3 mp w1 w2:=⟨QJ.os.trans hB.os,QJ.tape.trans hB.tape,QJ.output.trans hB.output,by omega,λx hx=>dC (by omega),λx hx hc _=>hk x hx (λe=>hc (by rw[e];exact tgs))⟩;refine⟨h.put to' hg hm w2 _ v' hu (λg QE=> ?_) Hb (λg QE=> ?_) (hk mp (by omega) Ep),λb hb hn ht=>⟨(hk b (by omega) (λe=>ht (by rw[e];exact tgs))).trans (hg.block b hb (λe=>hn (by cases e;rfl))),dC (by omega)⟩⟩
 . by_cases e:g=w1.heap.size+1
   . have:=h.below.size;omega
   rw[dC e] at QE;exact h.new g QE
 rcases Hz with e|e
 . rw[QE] at e;cases e;rw[dC (by omega)];exact tgs
 rw[QE,ye] at e;cases e;exact jS _ _ _
theorem iG.newTag (h:iG w0 n cU ms tb bc cc mb mp rc tag sE rU gO vs vr vg QS w) (c:Nat):∀ g,dB tag (w.heap.size+1) c g≠0->w0.heap.size<=g:=λg hg=>by
 by_cases e:g=w.heap.size+1
 . have:=h.below.size;omega
 rw[dC e] at hg;exact h.new g hg
theorem iG.appGoes (h:iG w0 n cU ms tb bc cc mb mp rc tag sE rU gO vs vr vg QS w) (row:List Int) (rb cp n':Nat) (Ko:row.length=n') (hr:w.ownsRow 0 3 1 (.slice (some ⟨rb,0,none⟩) n' cp) n' (dE row)) (VY:tag rb=6) (ob:Obj) (v':Value)
 (Hb:w2.ownsRow 0 39 1 v' (gO.length+1) (QS++[.slice (some ⟨rb,0,none⟩) n' cp])) (hg:(w.alloc ob).grownBy w2 vg.ownBlock) (Hz:v'.ownBlock=vg.ownBlock\/v'.ownBlock=some (w.alloc ob).heap.size):
 iG w0 n cU ms tb bc cc mb mp rc (dB tag (w.heap.size+1) 5) sE rU (gO++[row]) vs vr v' (QS++[.slice (some ⟨rb,0,none⟩) n' cp]) (w2.setCell ⟨tb,2,none⟩ v'):=by
 subst Ko;obtain⟨a1,a2,a3,a4⟩:=xC (tag:=tag) (c:=5) (off:=2) ob h.ht (by rw[h.t1];decide) (λg hg=>⟨(h.fGoes.lt g hg).2,h.t5 g hg⟩) Hb hg Hz;exact h.pushGoes row rb cp hr VY a1 (h.newTag 5) v' a2 a3 a4
theorem iG.appRule (h:iG w0 n cU ms tb bc cc mb mp rc tag sE rU gO vs vr vg QS w) (x:Int) (ob:Obj) (v':Value)
 (Hb:w2.ownsRow 0 3 1 v' (rU.length+1) (dE rU++[.int .i64 x])) (hg:(w.alloc ob).grownBy w2 vr.ownBlock) (Hz:v'.ownBlock=vr.ownBlock\/v'.ownBlock=some (w.alloc ob).heap.size):
 iG w0 n cU ms tb bc cc mb mp rc (dB tag (w.heap.size+1) 4) sE (rU++[x]) gO vs v' vg QS (w2.setCell ⟨tb,1,none⟩ v'):=by
 obtain⟨a1,a2,a3,a4⟩:=xC (tag:=tag) (c:=4) (off:=1) ob h.ht (by rw[h.t1];decide) (λg hg=>⟨(h.fRule.lt g hg).2,h.t4 g hg⟩) Hb hg Hz;exact h.pushRule x a1 (h.newTag 4) v' a2 a3 a4
theorem iG.tabAt {gr cr gg cg:Nat} (h:iG w0 n cU ms tb bc cc mb mp rc tag sE rU gO vs (.slice (some ⟨gr,0,none⟩) rU.length cr) (.slice (some ⟨gg,0,none⟩) gO.length cg) QS w) (XA:cU.length<=cc) (Qc:cU.length<1000000) (ir:gO.length<1000000) (bnd:Int) (w2:World)
 (hk:∀ b,b≠tb->w2.heap[b]?=w.heap[b]?) (Yv:w2.heap[tb]?=some (.cells #[.slice (some ⟨bc,0,none⟩) cU.length cc,.slice (some ⟨gr,0,none⟩) rU.length cr,.slice (some ⟨gg,0,none⟩) gO.length cg,.int .i64 bnd] 76 (0,0))):
 iW w2.heap.size w2 tb ⟨cU,rU,gO,bnd⟩ bc cc gr cr gg cg:=by
 have ne:∀ x d,tag x=d->d≠1->x≠tb:=λx d hx hd e=>by rw[e,h.t1] at hx;omega
 have z0:=aB _ _ 0 _ _ _ Yv;have z1:=aB _ _ 1 _ _ _ Yv;have z2:=aB _ _ 2 _ _ _ Yv;have z3:=aB _ _ 3 _ _ _ Yv;simp only[zLa,zLb,zLc] at z0 z1 z2 z3;have kc:=(hk bc (ne _ _ h.t6.1 (by decide))).trans h.fCuts;have kr:w2.ownsRow 0 3 1 (.slice (some ⟨gr,0,none⟩) rU.length cr) rU.length (dE rU):=aU h.fRule (λg hg=>by cases hg;exact hk gr (ne _ _ (h.t4 gr rfl) (by decide)))
 have kg:w2.ownsRow 0 39 1 (.slice (some ⟨gg,0,none⟩) gO.length cg) gO.length QS:=aU h.fGoes (λg hg=>by cases hg;exact hk gg (ne _ _ (h.t5 gg rfl) (by decide)));have Jr:∀ (l:List Int) (i:Nat) (x:Int),l[i]?=some x->(dE l)[i]?=some (.int .i64 x):=λl i x hx=>by unfold dE;rw[List.getElem?_map,hx];rfl
 refine⟨aA Yv,z0,z1,z2,z3,⟨rc,kc⟩,aA kc,λi x hx=>aE kr i _ (Jr _ _ _ hx),(kr.lt gr rfl).2,λi row hr=> ?_,(kg.lt gg rfl).2,XA,Qc,ir⟩;obtain⟨g,cp,h1,h2,h3⟩:=h.rows i row hr;have k2:w2.ownsRow 0 3 1 (.slice (some ⟨g,0,none⟩) row.length cp) row.length (dE row):=aU h2 (λg' hg=>by cases hg;exact hk g (ne _ _ h3 (by decide)));exact⟨g,cp,aE kg i _ h1,(k2.lt g rfl).2,λj x hx=>aE k2 j _ (Jr _ _ _ hx)⟩
end
section
variable {w0 w w':World} {n:Nat} {cU:List Int} {ms:List aW} {tb bc cc mb mp:Nat} {rc:List Value} {tag:Nat->Nat} {sE:List aW} {rU:List Int} {gO:List (List Int)} {vs vr vg:Value} {QS:List Value} {F:aW} {fb rb:Nat} {sets2:List aW} {Ym:List Int} {k:Nat} {row:List Int}
