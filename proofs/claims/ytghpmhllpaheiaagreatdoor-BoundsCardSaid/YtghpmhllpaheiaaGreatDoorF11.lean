/- Part of a proof. No condition. -/
import Derived.Test.YtghpmhllpaheiaaGreatDoorF00
import Derived.Test.YtghpmhllpaheiaaGreatDoorF01
set_option linter.unusedVariables false
set_option linter.unusedSimpArgs false
set_option maxRecDepth 100000
set_option maxHeartbeats 1000000
namespace Go.Proofs.YtghpmhllpaheiaaGreatDoor
open Go.RowKit Go.Lib
variable {v:Value} {l:List (Int×Int)} {B:Nat} {r:Int×Int}
def flat (l:List (Int×Int)):List Value:=l.flatMap λx=>[.int .i32 x.1,.int .i32 x.2]
theorem zb4 (l:List (Int×Int)):(flat l).length=l.length*2:=by
 induction l with
 | nil=>rfl
 | cons x l ih=>simp only[flat,List.flatMap_cons,zLn,List.length_cons] at*;simp at*;omega
theorem zeF (l m:List (Int×Int)):flat (l++m)=flat l++flat m:=by simp[flat]
theorem zap (l:List (Int×Int)) (k:Nat) (x:Int×Int) (h:l[k]?=some x):(flat l)[k*2]?=some (.int .i32 x.1)/\(flat l)[k*2+1]?=some (.int .i32 x.2):=by
 induction l generalizing k with
 | nil=>simp at h
 | cons y l ih=>
  cases k with
  | zero=>simp at h;subst h;exact⟨rfl,rfl⟩
  | succ k=>
   simp at h;have:=ih k h;have e:flat (y::l)=.int .i32 y.1:: .int .i32 y.2::flat l:=rfl;rw[e,show (k+1)*2=k*2+1+1 from by omega];simpa using this
theorem lK:eY Tryz.prog 200 210 2 8:=
 eY.of (z:=.agg #[.int .i32 0,.int .i32 0]) Tryz.underlying200 (by kernel_rfl) rfl (by decide)
def mC (x r:Int×Int):List (Int×Int):=
 if x.2<r.1\/x.1>r.2 then[x] else (if x.1<r.1 then[(x.1,r.1-1)] else[])++(if x.2>r.2 then[(r.2+1,x.2)] else[])
theorem oN (l:List (Int×Int)) (x r:Int×Int):cutP (l++[x]) r=cutP l r++mC x r:=by
 simp[cutP,mC]
theorem zex (x r:Int×Int):(mC x r).length<=2:=by
 unfold mC
 (repeat' split)<;>simp
theorem cutP_len (l:List (Int×Int)) (r:Int×Int):(cutP l r).length<=2*l.length:=by
 induction l with
 | nil=>simp[cutP]
 | cons x l ih=>
  have e:cutP (x::l) r=mC x r++cutP l r:=by simp[cutP,mC]
  have:=zex x r;rw[e,zLn,List.length_cons];omega
def qZ (l:List (Int×Int)):Prop:=∀ x∈l,0<=x.1/\x.1<=1114111/\0<=x.2/\x.2<=1114111
def fN (w:World) (v:Value) (l:List (Int×Int)):Prop:=w.ownsRow 0 210 2 v l.length (flat l)
theorem oM {w:World} {x1 x2:Int} (h:w.ownsRow 0 210 2 v (l.length+1) (flat l++[.int .i32 x1,.int .i32 x2])):fN w v (l++[(x1,x2)]):=by
 unfold fN;rw[zeF,zLn];exact h
theorem mU {W w1 w2:World} {v':Value} {bx:Obj} (hB:Below B W w1) (Qc:B<w1.heap.size) (XR:w1.heap[B]?=some bx) (hv:∀ g,v.ownBlock=some g->B<g)
 (hg:w1.grownBy w2 v.ownBlock) (hb:v'.ownBlock=v.ownBlock\/v'.ownBlock=some w1.heap.size):(∀ g,v'.ownBlock=some g->B<g)/\w2.heap[B]?=some bx/\Below B W w2/\B<w2.heap.size:=by
 refine⟨λg QE=> ?_,uG hg XR (λe=>by have:=hv _ e;omega),hB.grown hg (by omega) (λk hk=>by have:=hv _ hk;omega),zLd Qc hg.size⟩
 rcases hb with hb|hb
 . exact hv g (by rw[<-hb];exact QE)
 rw[hb] at QE;cases QE;omega
theorem eZ {W w1:World} {bx:Obj} (hB:Below B W w1) (Qc:B<w1.heap.size) (XR:w1.heap[B]?=some bx) (o:Obj):Below B W (w1.alloc o)/\B<(w1.alloc o).heap.size/\(w1.alloc o).heap[B]?=some bx:=
 ⟨hB.alloc (by omega) _,by simp;omega,by rw[aN,zN (by omega)];exact XR⟩
theorem lW {wr w':World} {p q a b:Value} {n:Nat} {xs:List Value} {o2:Obj} (Hb:wr.ownsRow 0 210 2 v n xs)
 (QJ:((wr.alloc (.cells #[p,q] 210)).alloc o2).grownBy w' v.ownBlock) (XR:wr.heap[B]?=some (.cells #[a,b] 210 (0,0))) (hv:∀ g,v.ownBlock=some g->B<g):
 w'.cell? ⟨wr.heap.size,0,none⟩=some p/\w'.cell? ⟨wr.heap.size,1,none⟩=some q/\w'.cell? ⟨B,0,none⟩=some a/\w'.cell? ⟨B,1,none⟩=some b:=by
 have hB:=aA XR;have h1:((wr.alloc (.cells #[p,q] 210)).alloc o2).heap[wr.heap.size]?=some (.cells #[p,q] 210 (0,0)):=by
  rw[aN,zN (by simp),aN,zP rfl]
 have h2:((wr.alloc (.cells #[p,q] 210)).alloc o2).heap[B]?=some (.cells #[a,b] 210 (0,0)):=by
  rw[aN,zN (by simp;omega),aN,zN (by omega)];exact XR
 have k1:=uG QJ h1 (λe=>by have:=(Hb.lt _ e).2;omega);have k2:=uG QJ h2 (λe=>by have:=hv _ e;omega);exact⟨aB w' _ 0 _ _ _ k1,aB w' _ 1 _ _ _ k1,aB w' _ 0 _ _ _ k2,aB w' _ 1 _ _ _ k2⟩
theorem cut_any (v:Value) (l:List (Int×Int)) (a b:Int) (w:World) (hc:fN w v l) (hl:l.length<=1000) (hr:qZ l) (ha:0<=a) (Sa:a<=1114111) (hb:0<=b) (Q1:b<=1114111):
 Calls Tryz.prog 171 #[v,.agg #[.int .i32 a,.int .i32 b]] w λr w'=>∃ v',r=.returned v'/\fN w' v' (cutP l (a,b))/\(∀ g,v'.ownBlock=some g->w.heap.size<=g)/\Below w.heap.size w w':=by
 have HC:=zh hc;have HR:=zh hr
 rcases bD hc with⟨rfl,hn⟩|⟨g,cap,rfl,Xp,hg⟩
 . have QG:l=[]:=List.eq_nil_of_length_eq_zero hn
   subst QG;go_enter Tryz.func171,Tryz.ntmps171;go_wp2;refine wp_loop_rounds 1 ?_;rw[rounds_succ];go_wp2;go_ret;exact⟨_,rfl,nL _ _ _,λg h=>by simp[Value.ownBlock] at h,(zBr _ w).alloc (zR _) _⟩
 have ZH:(l.length:Int)<=1000:=by omega
 clear hc hr;go_enter Tryz.func171,Tryz.ntmps171;go_wp2;have VA:(w.alloc (.cells #[.int .i32 a,.int .i32 b] 210)).heap[w.heap.size]?=some (.cells #[.int .i32 a,.int .i32 b] 210 (0,0)):=by rw[aN,zP rfl]
 have JT:Below w.heap.size w (w.alloc (.cells #[.int .i32 a,.int .i32 b] 210)):=(zBr _ w).alloc (zR _) _;generalize w.alloc (.cells #[.int .i32 a,.int .i32 b] 210)=W0 at*;go_loopw [4,9] (λo i wr=>∃ (k:Nat),k<=l.length/\i=.int .i64 k/\fN wr o (cutP (l.take k) (a,b))/\(∀ g,o.ownBlock=some g->w.heap.size<g)/\wr.heap[w.heap.size]?=some (.cells #[.int .i32 a,.int .i32 b] 210 (0,0))/\Below w.heap.size w wr) (λ_ i _=>l.length-(RowKit.intOf i).toNat)
 case atStart=>exact⟨0,by omega,rfl,nL _ _ _,λg h=>by simp[Value.ownBlock] at h,VA,JT⟩
 case round=>
  obtain⟨k,hk,rfl,Hb,YN,XR,hB⟩:=hrel;by_cases Hf:k<l.length
  . have hz:(k:Int)<(l.length:Int):=by omega
    obtain⟨x,hx⟩:=zG l k Hf;obtain⟨f0,f1⟩:=zap l k x hx;have c0:=aE (aZ HC.o hB) _ _ f0;have c1:=aE (aZ HC.o hB) _ _ f1;have b0:=aB wr w.heap.size 0 _ _ _ XR;have b1:=aB wr w.heap.size 1 _ _ _ XR;simp only[zLa,zLb,zLc] at b0 b1;have Th:w.heap.size<wr.heap.size:=aA XR;have Io:=HR.o x (zM hx);obtain⟨x1,x2⟩:=x;simp only at c0 c1 Io;have qk:=zh Hb
    have TZ:=zh XR;have HB:=zh hB;have HX:=zh hx;have KE:=zh YN;clear Hb XR hB hx f0 f1 YN;have Hg:=cutP_len (l.take k) (a,b);have P9:(l.take k).length<=1000:=by rw[List.length_take];omega
    by_cases d1:x2<a
    . go_wp2_with (at_builtin;refine dI rfl lK rfl (by exact (qk.o.alloc _).alloc _) [Value.int .i32 x1,Value.int .i32 x2] (by omega) ?_;intro v' w' Qw Qp Yi;obtain⟨q0,q1,q2,q3⟩:=lW qk.o Qp TZ.o KE.o)
      have To:l.take (k+1)=l.take k++[(x1,x2)]:=by rw[List.take_add_one,HX.o];rfl
      have yu:mC (x1,x2) (a,b)=[(x1,x2)]:=by unfold mC;rw[zP (.inl d1)]
      obtain⟨a1,a2,a3⟩:=eZ HB.o Th TZ.o (.cells #[Value.int .i32 x1,Value.int .i32 x2] 210);obtain⟨a4,a5,a6⟩:=eZ a1 a2 a3 (.cells #[Value.int .i32 x1,Value.int .i32 x2] 210);obtain⟨s1,s2,s3,s4⟩:=mU a4 a5 a6 KE.o Qp Yi;go_roundw
      case rel=>
       refine⟨k+1,by omega,by go_num,?_,s1,s2,s3⟩;rw[To,oN,yu];exact oM Qw
      case measure=>simp[RowKit.intOf];omega
    by_cases d2:b<x1
    . go_wp2_with (at_builtin;refine dI rfl lK rfl (by exact (qk.o.alloc _).alloc _) [Value.int .i32 x1,Value.int .i32 x2] (by omega) ?_;intro v' w' Qw Qp Yi;obtain⟨q0,q1,q2,q3⟩:=lW qk.o Qp TZ.o KE.o)
      have To:l.take (k+1)=l.take k++[(x1,x2)]:=by rw[List.take_add_one,HX.o];rfl
      have yu:mC (x1,x2) (a,b)=[(x1,x2)]:=by unfold mC;rw[zP (.inr d2)]
      obtain⟨a1,a2,a3⟩:=eZ HB.o Th TZ.o (.cells #[Value.int .i32 x1,Value.int .i32 x2] 210);obtain⟨a4,a5,a6⟩:=eZ a1 a2 a3 (.cells #[Value.int .i32 x1,Value.int .i32 x2] 210);obtain⟨s1,s2,s3,s4⟩:=mU a4 a5 a6 KE.o Qp Yi;go_roundw
      case rel=>
       refine⟨k+1,by omega,by go_num,?_,s1,s2,s3⟩;rw[To,oN,yu];exact oM Qw
      case measure=>simp[RowKit.intOf];omega
    by_cases e1:x1<a
    . by_cases e2:b<x2
      . go_wp2_with (first|(at_builtin;refine dI rfl lK rfl (by exact (qk.o.alloc _).alloc _) [Value.int .i32 x1,Value.int .i32 (a-1)] (by omega) ?_;intro v' w' Qw Qp Yi;obtain⟨q0,q1,q2,q3⟩:=lW qk.o Qp TZ.o KE.o)|(at_builtin;refine dI rfl lK rfl (by exact Qw.alloc _) [Value.int .i32 (b+1),Value.int .i32 x2] (by omega) ?_;intro v2 w2 xt YD Xn))
        have To:l.take (k+1)=l.take k++[(x1,x2)]:=by rw[List.take_add_one,HX.o];rfl
        have yu:mC (x1,x2) (a,b)=[(x1,a-1),(b+1,x2)]:=by unfold mC;rw[zN (by omega),zP e1,zP e2];rfl
        obtain⟨a1,a2,a3⟩:=eZ HB.o Th TZ.o (.cells #[Value.int .i32 x1,Value.int .i32 x2] 210);obtain⟨a4,a5,a6⟩:=eZ a1 a2 a3 (.cells #[Value.int .i32 x1,Value.int .i32 (a-1)] 210);obtain⟨s1,s2,s3,s4⟩:=mU a4 a5 a6 KE.o Qp Yi;obtain⟨a7,a8,a9⟩:=eZ s3 s4 s2 (.cells #[Value.int .i32 (b+1),Value.int .i32 x2] 210);obtain⟨t1,t2,t3,t4⟩:=mU a7 a8 a9 s1 YD Xn;go_roundw
        case rel=>
         refine⟨k+1,by omega,by go_num,?_,t1,t2,t3⟩;rw[To,oN,yu];have h2:=oM (l:=cutP (l.take k) (a,b)++[(x1,a-1)]) (x1:=b+1) (x2:=x2) (w:=w2) (v:=v2) (by rw[zeF,zLn];exact xt);simpa using h2
        case measure=>simp[RowKit.intOf];omega
      go_wp2_with (at_builtin;refine dI rfl lK rfl (by exact (qk.o.alloc _).alloc _) [Value.int .i32 x1,Value.int .i32 (a-1)] (by omega) ?_;intro v' w' Qw Qp Yi;obtain⟨q0,q1,q2,q3⟩:=lW qk.o Qp TZ.o KE.o)
      have To:l.take (k+1)=l.take k++[(x1,x2)]:=by rw[List.take_add_one,HX.o];rfl
      have yu:mC (x1,x2) (a,b)=[(x1,a-1)]:=by unfold mC;rw[zN (by omega),zP e1,zN (by omega)];rfl
      obtain⟨a1,a2,a3⟩:=eZ HB.o Th TZ.o (.cells #[Value.int .i32 x1,Value.int .i32 x2] 210);obtain⟨a4,a5,a6⟩:=eZ a1 a2 a3 (.cells #[Value.int .i32 x1,Value.int .i32 (a-1)] 210);obtain⟨s1,s2,s3,s4⟩:=mU a4 a5 a6 KE.o Qp Yi;go_roundw
      case rel=>
       refine⟨k+1,by omega,by go_num,?_,s1,s2,s3⟩;rw[To,oN,yu];exact oM Qw
      case measure=>simp[RowKit.intOf];omega
    by_cases e2:b<x2
    . go_wp2_with (at_builtin;refine dI rfl lK rfl (by exact (qk.o.alloc _).alloc _) [Value.int .i32 (b+1),Value.int .i32 x2] (by omega) ?_;intro v' w' Qw Qp Yi;obtain⟨q0,q1,q2,q3⟩:=lW qk.o Qp TZ.o KE.o)
      have To:l.take (k+1)=l.take k++[(x1,x2)]:=by rw[List.take_add_one,HX.o];rfl
      have yu:mC (x1,x2) (a,b)=[(b+1,x2)]:=by unfold mC;rw[zN (by omega),zN e1,zP e2];rfl
      obtain⟨a1,a2,a3⟩:=eZ HB.o Th TZ.o (.cells #[Value.int .i32 x1,Value.int .i32 x2] 210);obtain⟨a4,a5,a6⟩:=eZ a1 a2 a3 (.cells #[Value.int .i32 (b+1),Value.int .i32 x2] 210);obtain⟨s1,s2,s3,s4⟩:=mU a4 a5 a6 KE.o Qp Yi;go_roundw
      case rel=>
       refine⟨k+1,by omega,by go_num,?_,s1,s2,s3⟩;rw[To,oN,yu];exact oM Qw
      case measure=>simp[RowKit.intOf];omega
    go_wp2
    have To:l.take (k+1)=l.take k++[(x1,x2)]:=by rw[List.take_add_one,HX.o];rfl
    have yu:mC (x1,x2) (a,b)=[]:=by unfold mC;rw[zN (by omega),zN e1,zN (by omega)];rfl
    obtain⟨a1,a2,a3⟩:=eZ HB.o Th TZ.o (.cells #[Value.int .i32 x1,Value.int .i32 x2] 210);go_roundw
    case rel=>
     refine⟨k+1,by omega,by go_num,?_,KE.o,a3,a1⟩;rw[To,oN,yu,List.append_nil];exact qk.o.alloc _
    case measure=>simp[RowKit.intOf];omega
  go_wp2
  go_ret;have yi:k=l.length:=by omega
  subst yi;rw[List.take_length] at Hb;exact⟨_,rfl,Hb,λg hg=>by have:=YN g hg;omega,hB⟩
def Srt (l:List (Int×Int)):Prop:=l.Pairwise (λx y=>x.2<y.1)/\∀ x∈l,x.1<=x.2
theorem zbZ (x r y:Int×Int) (hx:x.1<=x.2) (hr:r.1<=r.2) (h:y∈mC x r):x.1<=y.1/\y.2<=x.2/\y.1<=y.2:=by
 unfold mC at h;split at h
 . simp at h;subst h;omega
 rename_i hn
 rw[zMa] at h
 rcases h with h|h
 . split at h
   . simp at h;subst h;simp;omega
   simp at h
 split at h
 . simp at h;subst h;simp;omega
 simp at h
theorem cut1_pair (x r:Int×Int) (hr:r.1<=r.2):(mC x r).Pairwise (λx y=>x.2<y.1):=by
 unfold mC
 (repeat' split)<;>simp
 omega
theorem uZ (l:List (Int×Int)) (x r:Int×Int):cutP (x::l) r=mC x r++cutP l r:=by simp[cutP,mC]
theorem zch {y:Int×Int} (h:y∈cutP l r):∃ x∈l,y∈mC x r:=by
 induction l with
 | nil=>simp[cutP] at h
 | cons x l ih=>
  rw[uZ,zMa] at h
  rcases h with h|h
  . exact⟨x,by simp,h⟩
  obtain⟨z,h1,h2⟩:=ih h
  exact⟨z,by simp[h1],h2⟩
theorem cutP_srt (h:Srt l) (hr:r.1<=r.2):Srt (cutP l r):=by
 obtain⟨h1,h2⟩:=h;refine⟨?_,λy hy=> ?_⟩
 . induction l with
   | nil=>simp[cutP]
   | cons x l ih=>
    rw[uZ,List.pairwise_append];rw[List.pairwise_cons] at h1;refine⟨cut1_pair x r hr,ih h1.2 (λz hz=>h2 z (by simp[hz])),λy hy z hz=> ?_⟩;obtain⟨u,hu,hz⟩:=zch hz;have a1:=zbZ x r y (h2 x (by simp)) hr hy;have a2:=zbZ u r z (h2 u (by simp[hu])) hr hz;have a3:=h1.1 u hu;omega
 obtain⟨u,hu,hy⟩:=zch hy
 exact (zbZ u r y (h2 u hu) hr hy).2.2
theorem cut1_len1 (x r:Int×Int) (h:¬ (x.1<r.1/\r.2<x.2)):(mC x r).length<=1:=by
 unfold mC
 (repeat' split)<;>simp
 omega
theorem zbi (l:List (Int×Int)) (r:Int×Int) (h:∀ x∈l,r.2<x.1):(cutP l r).length=l.length:=by
 induction l with
 | nil=>simp[cutP]
 | cons x l ih=>
  have h1:=h x (by simp);have e:mC x r=[x]:=by unfold mC;rw[zP (.inr h1)]
  rw[uZ,zLn,e,ih (λy hy=>h y (by simp[hy]))];simp;omega
theorem cutP_len1 (h:Srt l) (hr:r.1<=r.2):(cutP l r).length<=l.length+1:=by
 obtain⟨h1,h2⟩:=h
 induction l with
 | nil=>simp[cutP]
 | cons x l ih=>
  rw[List.pairwise_cons] at h1;rw[uZ,zLn,List.length_cons];by_cases hx:x.1<r.1/\r.2<x.2
  . have:=zex x r
    rw[zbi l r (λy hy=>by have:=h1.1 y hy;omega)];omega
  have:=cut1_len1 x r hx
  have:=ih h1.2 (λz hz=>h2 z (by simp[hz]));omega
def all0:List (Int×Int):=[(0,55295),(57344,1114111)]
theorem zfU (l:List (Int×Int)) (x:Int×Int):iL (l++[x])=cutP (iL l) x:=by simp[iL]
theorem zdV (h:qZ l) (hs:Srt l) (hr:r.1<=r.2):qZ (cutP l r):=by
 intro y hy;obtain⟨u,hu,hy⟩:=zch hy;have a1:=zbZ u r y (hs.2 u hu) hr hy;have a2:=h u hu;omega
theorem zfS (l:List (Int×Int)) (hl:∀ x∈l,x.1<=x.2):Srt (iL l)/\qZ (iL l)/\(iL l).length<=2+l.length:=by
 have key:∀ (m:List (Int×Int)) (a:List (Int×Int)),(∀ x∈m,x.1<=x.2)->Srt a->qZ a->Srt (m.foldl cutP a)/\qZ (m.foldl cutP a)/\(m.foldl cutP a).length<=a.length+m.length:=by
  intro m
  induction m with
  | nil=>intro a _ h1 h2;exact⟨h1,h2,by simp⟩
  | cons x m ih=>
   intro a hm h1 h2;have hx:=hm x (by simp);obtain⟨k1,k2,k3⟩:=ih (cutP a x) (λy hy=>hm y (by simp[hy])) (cutP_srt h1 hx) (zdV h2 h1 hx);have:=cutP_len1 h1 hx;refine⟨k1,k2,?_⟩;rw[List.foldl_cons,List.length_cons];omega
 exact key l all0 hl ⟨by simp[all0],by simp[all0]⟩ (by intro x hx;simp[all0] at hx;rcases hx with rfl|rfl<;>decide)
theorem zdH {w w':World} (h:fN w v l) (hb:Below w.heap.size w w'):fN w' v l:=aZ h hb
theorem rest_any (v:Value) (l:List (Int×Int)) (w:World) (hc:fN w v l) (hl:l.length<=100) (hr:qZ l) (ho:∀ x∈l,x.1<=x.2):
 Calls Tryz.prog 166 #[v] w λr w'=>∃ v',r=.returned v'/\fN w' v' (iL l)/\(∀ g,v'.ownBlock=some g->w.heap.size<=g)/\Below w.heap.size w w':=by
 have HC:=zh hc;have HR:=zh hr;have HO:=zh ho;have ZH:(l.length:Int)<=100:=by omega
 have yv:=bD hc;clear hc hr ho;have CT:fN (w.alloc (.cells #[.int .i32 0,.int .i32 55295,.int .i32 57344,.int .i32 1114111] 210)) (.slice (some ⟨w.heap.size,0,none⟩) 2 2) (iL []):=
  ⟨rfl,.inr ⟨w.heap.size,2,_,rfl,zZ _,by rw[aN,zP rfl],by decide,by unfold maxLen;omega,rfl,rfl⟩⟩
 have JT:Below w.heap.size w (w.alloc (.cells #[.int .i32 0,.int .i32 55295,.int .i32 57344,.int .i32 1114111] 210)):=(zBr _ w).alloc (zR _) _
 rcases yv with⟨rfl,hn⟩|⟨g,cap,rfl,Xp,hg⟩
 . have QG:l=[]:=List.eq_nil_of_length_eq_zero hn
   subst QG;have Iu:=zh CT;have tG:=zh JT;clear CT JT;go_enter Tryz.func166,Tryz.ntmps166;go_wp2;refine wp_loop_rounds 1 ?_;rw[rounds_succ];go_wp2;go_ret;exact⟨_,rfl,Iu.o,λg h=>by simp[Value.ownBlock] at h;omega,tG.o⟩
 go_enter Tryz.func166,Tryz.ntmps166
 have Iu:=zh CT;have tG:=zh JT;clear CT JT;go_wp2;have CT:=Iu.o;have JT:=tG.o;clear Iu tG;generalize w.alloc (.cells #[.int .i32 0,.int .i32 55295,.int .i32 57344,.int .i32 1114111] 210)=W0 at*;go_loopw [3,11] (λo i wr=>∃ (k:Nat),k<=l.length/\i=.int .i64 k/\fN wr o (iL (l.take k))/\(∀ g,o.ownBlock=some g->w.heap.size<=g)/\Below w.heap.size w wr) (λ_ i _=>l.length-(RowKit.intOf i).toNat)
 case atStart=>exact⟨0,by omega,rfl,CT,λg h=>by simp[Value.ownBlock] at h;omega,JT⟩
 case round=>
  obtain⟨k,hk,rfl,Hb,YN,hB⟩:=hrel;by_cases Hf:k<l.length
  . have hz:(k:Int)<(l.length:Int):=by omega
    obtain⟨x,hx⟩:=zG l k Hf;obtain⟨f0,f1⟩:=zap l k x hx;have c0:=aE (aZ HC.o hB) _ _ f0;have c1:=aE (aZ HC.o hB) _ _ f1;have re:=zM hx;have Io:=HR.o x re;have hxo:=HO.o x re;obtain⟨g1,g2,g3⟩:=zfS (l.take k) (λy hy=>HO.o y (List.mem_of_mem_take hy));have P9:(l.take k).length<=100:=by rw[List.length_take];omega
    obtain⟨x1,x2⟩:=x;simp only at c0 c1 Io hxo;have qk:=zh Hb;have HB:=zh hB;have HX:=zh hx;have G2:=zh g2;clear Hb hB hx f0 f1 YN re g1 g2;go_wp2_with (go_at_call 171;refine (cut_any _ _ _ _ _ (by exact qk.o.alloc _) (by omega) G2.o (by omega) (by omega) (by omega) (by omega)).mono ?_;rintro e w2 ⟨v2,rfl,Je,Ze,Hr⟩);go_roundw
    case rel=>
     have To:l.take (k+1)=l.take k++[(x1,x2)]:=by rw[List.take_add_one,HX.o];rfl
     have Qi:=HB.o.alloc HB.o.size (.cells #[Value.int .i32 x1,Value.int .i32 x2] 210);refine⟨k+1,by omega,by go_num,?_,λg hg=> ?_,Qi.trans (Hr.mono Qi.size)⟩
     . rw[To,zfU];exact Je
     . exact zT Qi.size (Ze g hg)
    case measure=>simp[RowKit.intOf];omega
  go_wp2
  go_ret;have yi:k=l.length:=by omega
  subst yi;rw[List.take_length] at Hb;exact⟨_,rfl,Hb,YN,hB⟩
