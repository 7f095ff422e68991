/- Part of a proof. No condition. -/
import Derived.Test.YtmfnmkccbldfpaaGreatDoorS00
import Derived.Test.YtmfnmkccbldfpaaGreatDoorS01
set_option linter.unusedVariables false
set_option linter.unusedSimpArgs false
set_option maxRecDepth 100000
set_option maxHeartbeats 1000000
namespace Go.Proofs.YtmfnmkccbldfpaaGreatDoor
open Go.RowKit Go.Lib Tryz
theorem zzBu {p:Prop} (h:p:=by exact (Hw.o.alloc _).alloc _):p:=h
theorem zzAV {p:Prop} (h:p:=by
 obtain⟨s1,s2,s3,s4⟩:=pL a4 a5 a6 JO.o QQ Y3;go_roundw
 case rel=>
  refine⟨k+1,zo,by go_num,?_,s1,s2,s3⟩;rw[ag,rQ,Yg];exact rP Q0
 case measure=>simp[RowKit.intOf];omega):p:=h
variable {v:Value} {l:θ} {B:Nat} {r:Int×Int}
def flat (l:θ):ζ:=l.flatMap λx=>[ξ x.1,ξ x.2]
theorem zec (l:θ):I (flat l)=I l*2:=by
 induction l with
 | nil=>rfl
 | cons x l ih=>grind [flat]
theorem zhu (l m:θ):flat (l++m)=flat l++flat m:=by simp[flat]
theorem zbT (l:θ) (k:Nat) (x:Int×Int) (h:l[k]?=some x):(flat l)[k*2]?=some (ξ x.1)/\(flat l)[k*2+1]?=some (ξ x.2):=by
 induction l generalizing k with
 | nil=>simp at h
 | cons y l ih=>
  cases k with
  | zero=>simp at h;subst h;exact⟨rfl,rfl⟩
  | succ k=>
   grind [flat]
theorem oE:eO prog 240 251 2 8:=
 eO.of (z:=.agg #[ξ 0,ξ 0]) underlying240 zK rfl zd
def qZ (x r:Int×Int):θ:=
 if x.2<r.1\/x.1>r.2 then[x] else (if x.1<r.1 then[(x.1,r.1-1)] else[])++(if x.2>r.2 then[(r.2+1,x.2)] else[])
theorem rQ (l:θ) (x r:Int×Int):cutP (l++[x]) r=cutP l r++qZ x r:=by
 simp[cutP,qZ]
theorem cut1_len (x r:Int×Int):I (qZ x r)<=2:=by
 grind [qZ]
theorem cutP_len (l:θ) (r:Int×Int):I (cutP l r)<=2*I l:=by
 induction l with
 | nil=>simp[cutP]
 | cons x l ih=>
  grind [cutP]
def xC (l:θ):Prop:=∀ x∈l,0<=x.1/\x.1<=1114111/\0<=x.2/\x.2<=1114111
def gV (w:ω) (v:Value) (l:θ):Prop:=w.r 251 2 v (I l) (flat l)
theorem rP {w:ω} {x1 x2:Int} (h:w.r 251 2 v (I l+1) (flat l++[ξ x1,ξ x2])):gV w v (l++[(x1,x2)]):=by
 unfold gV;rw[zhu,zLn];exact h
theorem pL {W w1 w2:ω} {v':Value} {bx:Obj} (hB:Below B W w1) (Hv:B<w1.t) (Yp:w1.heap[B]?=some bx) (hv:∀ g,β v=some g->B<g)
 (hg:w1.grownBy w2 (β v)) (hb:β v'=β v\/β v'=some w1.heap.size):(∀ g,β v'=some g->B<g)/\w2.heap[B]?=some bx/\Below B W w2/\B<w2.t:=by
 refine⟨λg QY=> ?_,zaq hg Yp (λe=>zg),hB.grown hg zo (λk hk=>zg),zLd Hv hg.size⟩
 grind
theorem gI {W w1:ω} {bx:Obj} (hB:Below B W w1) (Hv:B<w1.t) (Yp:w1.heap[B]?=some bx) (o:Obj):Below B W (κ w1 o)/\B<(κ w1 o).t/\(κ w1 o).heap[B]?=some bx:=
 ⟨hB.alloc zo _,zx,by grind [aV]⟩
theorem oQ {wr w':ω} {p q a b:Value} {n:Nat} {xs:ζ} {o2:Obj} (Hb:wr.r 251 2 v n xs)
 (Qm:(κ (κ wr (Ω #[p,q] 251)) o2).grownBy w' (β v)) (Yp:wr.h B #[a,b] 251) (hv:∀ g,β v=some g->B<g):
 w'.v wr.t 0 p/\w'.v wr.t 1 q/\w'.v B 0 a/\w'.v B 1 b:=by
 have:=aA Yp;have h1:(κ (κ wr (Ω #[p,q] 251)) o2).h wr.t #[p,q] 251:=by
  rw[aV,zN zs,aV,zP rfl]
 have h2:(κ (κ wr (Ω #[p,q] 251)) o2).h B #[a,b] 251:=by
  rw[aV,zN zx,aV,zN zo];exact Yp
 have k1:=zaq Qm h1 (λe=>by have:=(Hb.lt _ e).2;omega);have k2:=zaq Qm h2 (λe=>zg);exact⟨bF w' _ 0 _ _ _ k1,bF w' _ 1 _ _ _ k1,bF w' _ 0 _ _ _ k2,bF w' _ 1 _ _ _ k2⟩
theorem cut_any (v:Value) (l:θ) (a b:Int) (w:ω) (hc:gV w v l) (hl:I l<=1000) (hr:xC l) (ha:0<=a) (ha':a<=1114111) (hb:0<=b) (Qy:b<=1114111):
 Γ 166 #[v,.agg #[ξ a,ξ b]] w λr w'=>∃ v',r=ρ v'/\gV w' v' (cutP l (a,b))/\(∀ g,β v'=some g->w.t<=g)/\w.u w':=by
 have HC:=zh hc;have HR:=zh hr
 rcases aY hc with⟨rfl,hn⟩|⟨g,cap,rfl,Xi,hg⟩
 . have QZ:l=[]:=List.eq_nil_of_length_eq_zero hn
   subst QZ;go_in;go_wp2;refine wp_loop_rounds 1 ?_;rw[rounds_succ];go_wp2;go_ret;exact⟨_,rfl,qD _ _ _,λg h=>by simp[Value.ownBlock] at h,Ξ w _⟩
 have:(I l:Int)<=1000:=zo
 clear hc hr;go_in;go_wp2;have V3:(κ w (Ω #[ξ a,ξ b] 251)).h w.t #[ξ a,ξ b] 251:=by rw[aV,zP rfl]
 have p9:w.u (κ w (Ω #[ξ a,ξ b] 251)):=Ξ w _;generalize w.alloc (Ω #[ξ a,ξ b] 251)=W0 at*;go_loopw [4,9] (λo i wr=>∃ (k:Nat),k<=I l/\i=ι k/\gV wr o (cutP (l.take k) (a,b))/\(∀ g,β o=some g->w.t<g)/\wr.h w.t #[ξ a,ξ b] 251/\w.u wr) (λ_ i _=>I l-(ϑ i).toNat)
 case atStart=>exact⟨0,zo,rfl,qD _ _ _,λg h=>by simp[Value.ownBlock] at h,V3,p9⟩
 case round=>
  obtain⟨k,hk,rfl,Hb,xv,Yp,hB⟩:=hrel;by_cases Hf:k<I l
  . have:=zt k (I l)
    obtain⟨x,hx⟩:=zG l k Hf;obtain⟨f0,f1⟩:=zbT l k x hx;have c0:=aJ (aN HC.o hB) _ _ f0;have c1:=aJ (aN HC.o hB) _ _ f1;have b0:=bF wr w.t 0 _ _ _ Yp;have b1:=bF wr w.t 1 _ _ _ Yp;simp only[zLa,zLb,zLc] at b0 b1;have Cm:w.heap.size<wr.heap.size:=aA Yp;have Fa:=HR.o x (zM hx);obtain⟨x1,x2⟩:=x;simp only at c0 c1 Fa;have Hw:=zh Hb
    have ue:=zh Yp;have HB:=zh hB;have HX:=zh hx;have JO:=zh xv;clear Hb Yp hB hx f0 f1 xv;have:=cutP_len (l.take k) (a,b);have:I (l.take k)<=1000:=by rw[List.length_take];omega
    by_cases d1:x2<a
    . go_wp2_with (at_builtin;refine dM rfl oE rfl zzBu [ξ x1,ξ x2] zo ?_;intro v' w' Q0 QQ Y3;obtain⟨q0,q1,q2,q3⟩:=oQ Hw.o QQ ue.o JO.o)
      have ag:l.take (k+1)=l.take k++[(x1,x2)]:=by rw[List.take_add_one,HX.o];rfl
      have Yg:qZ (x1,x2) (a,b)=[(x1,x2)]:=by unfold qZ;rw[zP (.inl d1)]
      obtain⟨a1,a2,a3⟩:=gI HB.o Cm ue.o (Ω #[ξ x1,ξ x2] 251);obtain⟨a4,a5,a6⟩:=gI a1 a2 a3 (Ω #[ξ x1,ξ x2] 251);exact zzAV
    by_cases d2:b<x1
    . go_wp2_with (at_builtin;refine dM rfl oE rfl zzBu [ξ x1,ξ x2] zo ?_;intro v' w' Q0 QQ Y3;obtain⟨q0,q1,q2,q3⟩:=oQ Hw.o QQ ue.o JO.o)
      have ag:l.take (k+1)=l.take k++[(x1,x2)]:=by rw[List.take_add_one,HX.o];rfl
      have Yg:qZ (x1,x2) (a,b)=[(x1,x2)]:=by unfold qZ;rw[zP (.inr d2)]
      obtain⟨a1,a2,a3⟩:=gI HB.o Cm ue.o (Ω #[ξ x1,ξ x2] 251);obtain⟨a4,a5,a6⟩:=gI a1 a2 a3 (Ω #[ξ x1,ξ x2] 251);exact zzAV
    by_cases e1:x1<a
    . by_cases e2:b<x2
      . go_wp2_with (first|(at_builtin;refine dM rfl oE rfl zzBu [ξ x1,ξ (a-1)] zo ?_;intro v' w' Q0 QQ Y3;obtain⟨q0,q1,q2,q3⟩:=oQ Hw.o QQ ue.o JO.o)|(at_builtin;refine dM rfl oE rfl (by exact Q0.alloc _) [ξ (b+1),ξ x2] zo ?_;intro v2 w2 qt Qp QX))
        have ag:l.take (k+1)=l.take k++[(x1,x2)]:=by rw[List.take_add_one,HX.o];rfl
        have Yg:qZ (x1,x2) (a,b)=[(x1,a-1),(b+1,x2)]:=by unfold qZ;rw[zN zo,zP e1,zP e2];rfl
        obtain⟨a1,a2,a3⟩:=gI HB.o Cm ue.o (Ω #[ξ x1,ξ x2] 251);obtain⟨a4,a5,a6⟩:=gI a1 a2 a3 (Ω #[ξ x1,ξ (a-1)] 251);obtain⟨s1,s2,s3,s4⟩:=pL a4 a5 a6 JO.o QQ Y3;obtain⟨a7,a8,a9⟩:=gI s3 s4 s2 (Ω #[ξ (b+1),ξ x2] 251);obtain⟨t1,t2,t3,t4⟩:=pL a7 a8 a9 s1 Qp QX;go_roundw
        case rel=>
         refine⟨k+1,zo,by go_num,?_,t1,t2,t3⟩;rw[ag,rQ,Yg];have:=rP (l:=cutP (l.take k) (a,b)++[(x1,a-1)]) (x1:=b+1) (x2:=x2) (w:=w2) (v:=v2) (by rw[zhu,zLn];exact qt);simp_all
        case measure=>simp[RowKit.intOf];omega
      go_wp2_with (at_builtin;refine dM rfl oE rfl zzBu [ξ x1,ξ (a-1)] zo ?_;intro v' w' Q0 QQ Y3;obtain⟨q0,q1,q2,q3⟩:=oQ Hw.o QQ ue.o JO.o)
      have ag:l.take (k+1)=l.take k++[(x1,x2)]:=by rw[List.take_add_one,HX.o];rfl
      have Yg:qZ (x1,x2) (a,b)=[(x1,a-1)]:=by unfold qZ;rw[zN zo,zP e1,zN zo];rfl
      obtain⟨a1,a2,a3⟩:=gI HB.o Cm ue.o (Ω #[ξ x1,ξ x2] 251);obtain⟨a4,a5,a6⟩:=gI a1 a2 a3 (Ω #[ξ x1,ξ (a-1)] 251);exact zzAV
    by_cases e2:b<x2
    . go_wp2_with (at_builtin;refine dM rfl oE rfl zzBu [ξ (b+1),ξ x2] zo ?_;intro v' w' Q0 QQ Y3;obtain⟨q0,q1,q2,q3⟩:=oQ Hw.o QQ ue.o JO.o)
      have ag:l.take (k+1)=l.take k++[(x1,x2)]:=by rw[List.take_add_one,HX.o];rfl
      have Yg:qZ (x1,x2) (a,b)=[(b+1,x2)]:=by unfold qZ;rw[zN zo,zN e1,zP e2];rfl
      obtain⟨a1,a2,a3⟩:=gI HB.o Cm ue.o (Ω #[ξ x1,ξ x2] 251);obtain⟨a4,a5,a6⟩:=gI a1 a2 a3 (Ω #[ξ (b+1),ξ x2] 251);exact zzAV
    go_wp2
    have ag:l.take (k+1)=l.take k++[(x1,x2)]:=by rw[List.take_add_one,HX.o];rfl
    have Yg:qZ (x1,x2) (a,b)=[]:=by unfold qZ;rw[zN zo,zN e1,zN zo];rfl
    obtain⟨a1,a2,a3⟩:=gI HB.o Cm ue.o (Ω #[ξ x1,ξ x2] 251);go_roundw
    case rel=>
     refine⟨k+1,zo,by go_num,?_,JO.o,a3,a1⟩;rw[ag,rQ,Yg,List.append_nil];exact Hw.o.alloc _
    case measure=>simp[RowKit.intOf];omega
  go_wp2
  go_ret;have QF:k=I l:=zo
  subst QF;rw[List.take_length] at Hb;exact⟨_,rfl,Hb,λg hg=>by have:=xv g hg;omega,hB⟩
def Srt (l:θ):Prop:=l.Pairwise (λx y=>x.2<y.1)/\∀ x∈l,x.1<=x.2
theorem zd7 (x r y:Int×Int) (hx:x.1<=x.2) (hr:r.1<=r.2) (h:y∈qZ x r):x.1<=y.1/\y.2<=x.2/\y.1<=y.2:=by
 grind [qZ]
theorem cut1_pair (x r:Int×Int) (hr:r.1<=r.2):(qZ x r).Pairwise (λx y=>x.2<y.1):=by
 unfold qZ
 (repeat' split)<;>simp
 omega
theorem zaF (l:θ) (x r:Int×Int):cutP (x::l) r=qZ x r++cutP l r:=by rfl
theorem zew {y:Int×Int} (h:y∈cutP l r):∃ x∈l,y∈qZ x r:=by
 induction l with
 | nil=>simp[cutP] at h
 | cons x l ih=>
  grind [zaF]
theorem cutP_srt (h:Srt l) (hr:r.1<=r.2):Srt (cutP l r):=by
 obtain⟨h1,h2⟩:=h;refine⟨?_,λy hy=> ?_⟩
 . induction l with
   | nil=>simp[cutP]
   | cons x l ih=>
    rw[zaF,List.pairwise_append];rw[List.pairwise_cons] at h1;refine⟨cut1_pair x r hr,ih h1.2 (λz hz=>h2 z (by simp[hz])),λy hy z hz=> ?_⟩;obtain⟨u,hu,hz⟩:=zew hz;have:=zd7 x r y (h2 x zs) hr hy;have:=zd7 u r z (h2 u (by simp[hu])) hr hz
    grind
 obtain⟨u,hu,hy⟩:=zew hy
 exact (zd7 u r y (h2 u hu) hr hy).2.2
theorem cut1_len1 (x r:Int×Int) (h:¬ (x.1<r.1/\r.2<x.2)):I (qZ x r)<=1:=by
 grind [qZ]
theorem zda (l:θ) (r:Int×Int) (h:∀ x∈l,r.2<x.1):I (cutP l r)=I l:=by
 induction l with
 | nil=>rfl
 | cons x l ih=>
  grind [qZ,zaF]
theorem cutP_len1 (h:Srt l) (hr:r.1<=r.2):I (cutP l r)<=I l+1:=by
 obtain⟨h1,h2⟩:=h
 induction l with
 | nil=>simp[cutP]
 | cons x l ih=>
  grind [List.pairwise_cons,zaF,cut1_len,zda,cut1_len1]
def all0:θ:=[(0,55295),(57344,1114111)]
theorem zi4 (l:θ) (x:Int×Int):jR (l++[x])=cutP (jR l) x:=by simp[jR]
theorem zgz (h:xC l) (hs:Srt l) (hr:r.1<=r.2):xC (cutP l r):=by
 intro y hy;obtain⟨u,hu,hy⟩:=zew hy;have:=zd7 u r y (hs.2 u hu) hr hy;have:=h u hu;omega
theorem zi1 (l:θ) (hl:∀ x∈l,x.1<=x.2):Srt (jR l)/\xC (jR l)/\I (jR l)<=2+I l:=by
 have key:∀ (m:θ) (a:θ),(∀ x∈m,x.1<=x.2)->Srt a->xC a->Srt (m.foldl cutP a)/\xC (m.foldl cutP a)/\I (m.foldl cutP a)<=I a+I m:=by
  intro m
  induction m with
  | nil=>grind
  | cons x m ih=>
   intro a hm h1 h2;have hx:=hm x zs;obtain⟨k1,k2,k3⟩:=ih (cutP a x) (λy hy=>hm y (by simp[hy])) (cutP_srt h1 hx) (zgz h2 h1 hx)
   grind [cutP_len1]
 exact key l all0 hl ⟨zd,zd⟩ (by intro x hx;grind [all0])
theorem zgl {w w':ω} (h:gV w v l) (hb:w.u w'):gV w' v l:=aN h hb
theorem rest_any (v:Value) (l:θ) (w:ω) (hc:gV w v l) (hl:I l<=100) (hr:xC l) (ho:∀ x∈l,x.1<=x.2):
 Γ 162 #[v] w λr w'=>∃ v',r=ρ v'/\gV w' v' (jR l)/\(∀ g,β v'=some g->w.t<=g)/\w.u w':=by
 have:(I l:Int)<=100:=zo
 have yn:=aY hc;have F4:gV (κ w (Ω #[ξ 0,ξ 55295,ξ 57344,ξ 1114111] 251)) (σ w.t 2 2) (jR []):=
  ⟨rfl,.inr ⟨w.t,2,_,rfl,rC,by rw[aV,zP rfl],zd,zd,rfl,rfl⟩⟩
 have p9:w.u (κ w (Ω #[ξ 0,ξ 55295,ξ 57344,ξ 1114111] 251)):=Ξ w _
 rcases yn with⟨rfl,hn⟩|⟨g,cap,rfl,Xi,hg⟩
 . have QZ:l=[]:=List.eq_nil_of_length_eq_zero hn
   subst QZ;go_in;go_wp2;refine wp_loop_rounds 1 ?_;rw[rounds_succ];go_wp2;go_ret;exact⟨_,rfl,F4,λg h=>by simp_all[Value.ownBlock],p9⟩
 go_in
 go_wp2;have F4:=F4;have p9:=p9;generalize w.alloc (Ω #[ξ 0,ξ 55295,ξ 57344,ξ 1114111] 251)=W0 at*;go_loopw [3,11] (λo i wr=>∃ (k:Nat),k<=I l/\i=ι k/\gV wr o (jR (l.take k))/\(∀ g,β o=some g->w.t<=g)/\w.u wr) (λ_ i _=>I l-(ϑ i).toNat)
 case atStart=>grind [Value.ownBlock]
 case round=>
  obtain⟨k,hk,rfl,Hb,xv,hB⟩:=hrel;by_cases Hf:k<I l
  . have:=zt k (I l)
    obtain⟨x,hx⟩:=zG l k Hf;obtain⟨f0,f1⟩:=zbT l k x hx;have c0:=aJ (aN hc hB) _ _ f0;have c1:=aJ (aN hc hB) _ _ f1;have hxm:=zM hx;have Fa:=hr x hxm;have hxo:=ho x hxm;obtain⟨g1,g2,g3⟩:=zi1 (l.take k) (λy hy=>ho y (List.mem_of_mem_take hy));have:I (l.take k)<=100:=by rw[List.length_take];omega
    obtain⟨x1,x2⟩:=x;simp only at c0 c1 Fa hxo;have G2:=zh g2;clear f0 f1 hxm g1 g2;go_wp2_with (go_at_call 166;refine (cut_any _ _ _ _ _ (by exact Hb.alloc _) zo G2.o zo zo zo zo).mono ?_;rintro e w2 ⟨v2,rfl,Jh,Ce,Hm⟩);go_roundw
    case rel=>
     have:l.take (k+1)=l.take k++[(x1,x2)]:=by rw[List.take_add_one,hx];rfl
     have Hu:=hB.alloc hB.size (Ω #[ξ x1,ξ x2] 251);refine⟨k+1,zo,by go_num,?_,λg hg=> ?_,Hu.trans (Hm.mono Hu.size)⟩
     . grind [zi4]
     exact zT Hu.size (Ce g hg)
    grind [RowKit.intOf]
  go_wp2
  go_ret;have:k=I l:=zo
  simp_all
