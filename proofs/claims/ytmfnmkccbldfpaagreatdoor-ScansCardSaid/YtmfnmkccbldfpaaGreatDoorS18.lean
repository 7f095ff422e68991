/- Part of a proof. No condition. -/
import Derived.Test.YtmfnmkccbldfpaaGreatDoorS15
import Derived.Test.YtmfnmkccbldfpaaGreatDoorS17
import Derived.Laws.EntriesVeiled
set_option linter.unusedVariables false
set_option linter.unusedSimpArgs false
set_option maxRecDepth 100000
set_option maxHeartbeats 4000000
namespace Go.Proofs.YtmfnmkccbldfpaaGreatDoor
open Go.RowKit Go.Lib Tryz
variable {G:List cK} {tag:Nat->Nat} {w:ω}
theorem dfs_lt (NP:∀ i j,i<I G->j∈bD G i->j<I G):∀ (f:Nat),
 (∀ k l l2,dfs G f k l=some l2->k<I G->(∀ x∈l,x<I G)->∀ x∈l2,x<I G)/\(∀ r l l2,pI G f r l=some l2->(∀ x∈r,x<I G)->(∀ x∈l,x<I G)->∀ x∈l2,x<I G):=by
 intro f
 induction f with
 | zero=>grind [dfs,pI]
 | succ f ih=>
  refine⟨λk l l2 h hk hl=> ?_,λr l l2 h hr hl=> ?_⟩
  . grind [dfs]
  exact zzCU
def ReachO (G:List cK) (tag:Nat->Nat) (Hd:ο) (vs:ζ) (l2:ο) (w:ω) (e:Ending) (w':ω):Prop:=
 e=ρ (ϕ #[qV (aO G l2),φ (jZ G l2)])/\∃ He,sU w' He Hd vs G (λ_=>false)/\sP tag He w w'
theorem sP.below {He:Nat->Nat} {w':ω} (h:w.u w') (ht:∀ b,b<w.heap.size->He b=tag b):sP tag He w w':=⟨h.os,h.tape,h.output,h.size,ht,λb hb _=>h.block b hb⟩
theorem zgU (w:ω) (tag:Nat->Nat) (Hd:ο) (vs:ζ) (G:List cK) (seen:Nat->Bool) (hK:sU w tag Hd vs G seen):
 ∃ He,RAt (κ (κ (κ (κ w (Ω #[υ 0,υ 0] 176)) (Ω #[φ false] 4)) (Ω #[ν] 161)) (Ω #[zjd (w.t+1+1) (w.t+1) w.t (w.t+1+1+1)] 247)) He (w.t+1+1) (w.t+1) w.t (w.t+1+1+1) Hd [] false (0,0) ν/\
  sU (κ (κ (κ (κ w (Ω #[υ 0,υ 0] 176)) (Ω #[φ false] 4)) (Ω #[ν] 161)) (Ω #[zjd (w.t+1+1) (w.t+1) w.t (w.t+1+1+1)] 247)) He Hd vs G seen/\
  sP tag He w (κ (κ (κ (κ w (Ω #[υ 0,υ 0] 176)) (Ω #[φ false] 4)) (Ω #[ν] 161)) (Ω #[zjd (w.t+1+1) (w.t+1) w.t (w.t+1+1+1)] 247)):=by
 have hb:w.u (κ (κ (κ (κ w (Ω #[υ 0,υ 0] 176)) (Ω #[φ false] 4)) (Ω #[ν] 161)) (Ω #[zjd (w.t+1+1) (w.t+1) w.t (w.t+1+1+1)] 247)):=
  (((Ξ w _).alloc zs _).alloc zx _).alloc zx _
 have ht:∀ b,b<w.heap.size->(λb=>if b<w.heap.size then tag b else 8) b=tag b:=λb hb=>zP hb;refine⟨λb=>if b<w.heap.size then tag b else 8,⟨?_,qD _ _ _,?_,?_,?_,zN zo,zN zo,zN zo,zN zo,zo,λg hg=>by cases hg⟩,hK.apart ht λb Qy _=>hb.block b Qy,sP.below hb ht⟩
 . rw[aV,zN zs,aV,zP zs]
 . rw[aV,zN zs,aV,zN zs,aV,zP zs]
 . unfold kS
   rw[aV,zN zx,aV,zN zx,aV,zN zs,aV,zP rfl];rfl
 rw[aV,zP zs]
structure ze0 (G:List cK) (tag:Nat->Nat) (qa ea sa wa:Nat) (Hd:ο) (vs:ζ) (w:ω) (l2:ο) (qv:Value) (Qz:Nat->Nat) (j:Nat) (wr:ω):Prop where
 net:sU wr Qz Hd vs G (λi=>l2.contains i&& !(l2.take j).contains i)
 aQ:RAt wr Qz qa ea sa wa Hd l2 (jZ G l2) (aO G l2) qv
 upd:sP tag Qz w wr
theorem ze0.next {qa ea sa wa:Nat} {Hd:ο} {vs:ζ} {l2:ο} {qv:Value} {Qz:Nat->Nat} {j:Nat} {wr:ω} (h:ze0 G tag qa ea sa wa Hd vs w l2 qv Qz j wr) (n:Nat) (hn:l2[j]?=some n) (hg:n<I G):
 ze0 G tag qa ea sa wa Hd vs w l2 qv Qz (j+1) (ς wr ((χ Hd n 0).p 3) (φ false)):=by
 refine⟨(h.net.mark n hg false).congr λi _=> ?_,h.aQ.other _ _ _ (by rw[h.net.ta n hg];omega),h.upd.trans (sP.mark h.net n hg _ _)⟩
 grind [List.take_add_one]
theorem dfs_pos {f k:Nat} {l2:ο} (h:dfs G f k []=some l2):0<I l2:=by
 cases f with
 | zero=>rw[dfs] at h;cases h
 | succ f=>
  rw[dfs,zN zs] at h;have:=(zgr f).2 _ _ _ h
  grind
theorem wipe_end {qa ea sa wa:Nat} {Hd l:ο} {E:Bool} {S:aZ} {qv:Value} {vs:ζ} {seen:Nat->Bool} (h:RAt w tag qa ea sa wa Hd l E S qv) (hK:sU w tag Hd vs G seen):
 kS (ς (ς (ς w sa.a (υ S.1)) (sa.p 1) (υ S.2)) ea.a (φ E)).drew sa S/\(ς (ς (ς w sa.a (υ S.1)) (sa.p 1) (υ S.2)) ea.a (φ E)).drew.h ea #[φ E] 4/\
  sU (ς (ς (ς w sa.a (υ S.1)) (sa.p 1) (υ S.2)) ea.a (φ E)).drew tag Hd vs G seen/\sP tag tag w (ς (ς (ς w sa.a (υ S.1)) (sa.p 1) (υ S.2)) ea.a (φ E)).drew:=by
 have nes:=h.ne.2.2.2.1;have k:∀ b,b≠sa->b≠ea->(ς (ς (ς w sa.a (υ S.1)) (sa.p 1) (υ S.2)) ea.a (φ E)).drew.e w b:=by
  intro b h1 h2;show (ς (ς (ς w sa.a (υ S.1)) (sa.p 1) (υ S.2)) ea.a (φ E)).heap[b]?=_;rw[aD _ _ _ _ h2,aD _ _ _ _ h1,aD _ _ _ _ h1]
 refine⟨?_,?_,hK.apart (λ_ _=>rfl) λb hb ht=>k b (λe=>by rw[e,h.ts] at ht;omega) (λe=>by rw[e,h.te] at ht;omega),⟨rfl,rfl,rfl,?_,λ_ _=>rfl,λb hb ht=>k b (λe=>by rw[e,h.ts] at ht;omega) (λe=>by rw[e,h.te] at ht;omega)⟩⟩
 . show (ς (ς (ς w sa.a (υ S.1)) (sa.p 1) (υ S.2)) ea.a (φ E)).heap[sa]?=_
   rw[aD _ _ _ _ (Ne.symm nes),aB _ sa 1 _ _ _ _ (aB w sa 0 _ _ _ _ h.hs)];rfl
 . show (ς (ς (ς w sa.a (υ S.1)) (sa.p 1) (υ S.2)) ea.a (φ E)).heap[ea]?=_
   rw[aB _ ea 0 _ _ _ _ (((aD _ _ _ _ nes).trans (aD _ _ _ _ nes)).trans h.he)];rfl
 simp
theorem zfQ (G:List cK) (hp:∀ i,aX G i<128) (f k:Nat) (l2:ο) (w:ω) (tag:Nat->Nat) (Hd:ο) (vs:ζ) (hd:dfs G f k []=some l2) (hK:sU w tag Hd vs G (λ_=>false)) (hk:k<I G) (Q9:I l2<=1000000):
 Γ 64 #[aF (χ Hd k 0)] w (ReachO G tag Hd vs l2 w):=by
 obtain⟨ak,Pd⟩:=zE (χ Hd k 0);rw[<-Pd];have tG:=zh Pd;have HK:=zh hK;have HD:=zh hd;clear Pd hK hd;go_in;go_upto_region 4 with fail
 obtain⟨ya,Bi,IM,Es⟩:=zgU w tag Hd vs G _ HK.o;have Hj:=dfs_any G hp f k [] l2 _ ya _ _ _ _ Hd vs _ HD.o (IM.congr λ_ _=>rfl) Bi hk Q9;have cw:=zq 0 Bi.hw;rw[<-tG.o] at Hj;have Uq:=zh Es;clear Bi IM Es;generalize hqa:w.heap.size+1+1=qa at*;generalize hea:w.heap.size+1=ea at*;generalize Nw:w.heap.size=sa at*;generalize DW:qa+1=wa at*;have qw:=zh Hj;clear hqa hea Nw DW Hj
 generalize (κ (κ (κ w (Ω #[υ 0,υ 0] 176)) (Ω #[φ false] 4)) (Ω #[ν] 161)).alloc (Ω #[zjd qa ea sa wa] 247)=w1 at*;go_wp2_with fail;refine qw.o.mono ?_;rintro e w2 ⟨rfl,Qz,qv2,Zi,yi,Bj⟩;have Hf:=(dfs_lt Zi.wf f).1 k [] l2 HD.o hk (λx hx=>by cases hx);have yk:=zh Hf;have Hh:ze0 G tag qa ea sa wa Hd vs w l2 qv2 Qz 0 w2:=⟨Zi.congr λi _=>zs,yi,Uq.o.trans Bj⟩;have Hl:=zh Hh;have:=zq 0 yi.hq
 have Hb:=yi.rq;have AT:=zh Q9;clear Zi yi Bj Hf Hh qw Q9 Uq cw;have:(I l2:Int)<=9223372036854775807:=by have:=AT.o;omega
 rcases aY Hb with⟨rfl,hn⟩|⟨g,cap,rfl,Xi,hg⟩
 . have:=dfs_pos HD.o
   omega
 have:=zh Hb
 clear Hb;go_wp2;go_loopw [14] (λs14 wr=>∃ (j:Nat),s14=ι j/\j<=I l2/\ze0 G tag qa ea sa wa Hd vs w l2 (σ g (I l2) cap) Qz j wr) (λs14 _=>I l2-(ϑ s14).toNat)
 case atStart=>exact⟨0,rfl,zo,Hl.o⟩
 case round=>
  obtain⟨j,rfl,hj,hS⟩:=hrel;have HS:=zh hS;clear hS;by_cases nh:j<I l2
  . have hz:=zt j (I l2)
    obtain⟨n,hn⟩:=zG l2 j nh;have EO:=yk.o n (zM hn);obtain⟨an,Jf⟩:=zE (χ Hd n 0);have:wr.v g j (aF an):=by
     rw[Jf];refine aJ HS.o.aQ.rq _ _ ?_;rw[List.getElem?_map,hn];rfl
    have Ey:=HS.o.net.cell n EO;rw[<-Jf] at Ey;have:=zF 3 Ey;have:=zq 3 Ey;have Xw:=HS.o.next n hn EO;rw[<-Jf] at Xw;have Qo:=zh Xw;clear Xw Ey hn Jf;go_wp2;go_roundw
    case rel=>exact⟨j+1,by go_num,zo,Qo.o⟩
    grind [RowKit.intOf]
  have hz:=zn j (I l2)
  have xi:j=I l2:=zo
  subst xi;have c1:=HS.o.aQ.hs.cells;obtain⟨s0,s1⟩:=c1;have:=zq 0 HS.o.aQ.he;have:=zF 0 HS.o.aQ.hs;have:=zF 1 HS.o.aQ.hs;have:=zF 0 HS.o.aQ.he;have:=HS.o.aQ.ne.2.2.2.1;go_wp2;go_region_with fail
  all_goals
   go_wp2;obtain⟨z1,z2,z3,z4⟩:=wipe_end HS.o.aQ HS.o.net;generalize (ς (ς (ς wr sa.a (υ (aO G l2).1)) (sa.p 1) (υ (aO G l2).2)) ea.a (φ (jZ G l2))).drew=w9 at*;obtain⟨y0,y1⟩:=z1.cells;have y2:=zq 0 z2;have HZ:=Θ z3 z4;clear z1 z2 z3 z4;simp[bodyPost,results,results64,go_sem,y0,y1,y2];exact⟨rfl,Qz,HZ.o.1.congr λi _=>zs,HS.o.upd.trans HZ.o.2⟩
end Go.Proofs.YtmfnmkccbldfpaaGreatDoor
namespace Go.Proofs.YtmfnmkccbldfpaaGreatDoor
open Go.RowKit Go.Lib Tryz
variable {G:List cK} {s:bC}
def pK (s:bC):Prop:=(∀ k,I (bD s.kN k)<=1000000)/\I s.kN<=1000000/\I s.cL<=1000000
def gB (G:List cK) (f:Nat) (i:Nat):ο->iT->Option iT
 | [],L=>some L
 | b::r,L=>
  match dfs G f b [] with
  | none=>none
  | some l=>gB G f i r {L with fO:=L.fO++[aO G l],rU:=L.rU++[if jZ G l then (i:Int) else -1]}
def iC (f:Nat):List aL->Nat->bC->iT->Option (bC×iT)
 | [],_,s,L=>some (s,L)
 | t::r,i,s,L=>
  match fE t (I s.kN) (s.push ⟨[],0,false⟩) with
  | none=>none
  | some (e,s1)=>
   match dfs (s1.fI e).kN f (I s.kN) [] with
   | none=>none
   | some l=>
    match gB (s1.fI e).kN f i (s1.bE.drop (I s.bE)) {L with cL:=s1.cL,fO:=L.fO.modify 0 (aZ.or · (aO (s1.fI e).kN l))} with
    | none=>none
    | some L2=>iC f r (i+1) (s1.fI e) L2
def kW:bC:=⟨[],[[]],[0]⟩
def kX:iT:=⟨[[]],[-1],[(0,0)]⟩
theorem sL (G:List cK) (e k:Nat):bD (G.modify e finK) k=bD G k:=by
 grind [bD,finK]
theorem zas (G:List cK) (e k:Nat):aX (G.modify e finK) k=aX G k:=uI (f:=finK) (λ_=>rfl) e k
theorem zfl {e:Nat} (he:e<I G) (k:Nat):eM (G.modify e finK) k=if k=e then true else eM G k:=by
 grind [eM,finK]
theorem bW.fI (s:bC) (e:Nat):bW s (s.fI e):=⟨by simp[bC.fI],bR,rfl,λk=>by show _<=I (bD (s.kN.modify e finK) k);grind [sL]⟩
theorem zbG {f:Nat}:∀ (l:List aL) (i:Nat) (s:bC) (L:iT) (s2:bC) (L2:iT),iC f l i s L=some (s2,L2)->bW s s2
 | [],i,s,L,s2,L2,h=>by grind [iC,bW.refl]
 | t::r,i,s,L,s2,L2,h=>by
  rw[iC] at h;split at h
  . cases h
  rename_i e s1 h1
  split at h
  . cases h
  split at h
  . cases h
  exact (bW.push s _).trans ((iD _ _ _ _ _ h1).trans ((bW.fI _ _).trans (zbG r _ _ _ _ _ h)))
theorem pK.of_later {s2:bC} (h:pK s2) (k:bW s s2):pK s:=⟨λi=>zT (k.2.2.2 i) (h.1 i),zT k.1 h.2.1,zT k.2.1 h.2.2⟩
def PlOk (s:bC):Prop:=∀ i,aX s.kN i<=64
theorem PlOk.push (h:PlOk s) (l:ο) (n:Nat) (b:Bool) (hn:n<=64):PlOk (s.push ⟨l,n,b⟩):=by
 intro i;show aX (s.kN++[⟨l,n,b⟩]) i<=64
 rcases zLg i (I s.kN) with hi|hi
 . rw[zcK hi];exact h i
 grind [aX]
theorem PlOk.link (h:PlOk s) (i:Nat) (l:ο):PlOk (s.link i l):=λk=>by
 show aX (s.kN.modify i (qO l)) k<=64;rw[uI (f:=qO l) (λ_=>rfl)];exact h k
theorem PlOk.fI (h:PlOk s) (i:Nat):PlOk (s.fI i):=λk=>by
 show aX (s.kN.modify i finK) k<=64;rw[zas];exact h k
mutual
theorem pR:∀ (t:aL) (i p:Nat) (s s':bC),fE t i s=some (p,s')->PlOk s->PlOk s'
 | .cL c,i,p,s,s',h,hs=>by
  rw[fE] at h;split at h
  . cases h
  . rename_i Jv
    cases h;exact ((hs.push [] 0 false zo).push [] (I s.cL) false zo).link i [I s.kN+1]
 | .row l,i,p,s,s',h,hs=>by
  rw[fE] at h;exact zdx l i p s s' h hs
 | .either a b,i,p,s,s',h,hs=>by
  rw[fE] at h;split at h
  . cases h
  . rename_i p1 s2 e1
    split at h
    . cases h
    . rename_i q s3 e2
      cases h;exact ((pR b _ _ _ _ e2 (pR a _ _ _ _ e1 ((((hs.push [] 0 false zo).push [] 0 false zo).push [] 0 false zo).link i _))).link _ _).link _ _
 | .rep t m o,i,p,s,s',h,hs=>by
  rw[fE] at h;split at h
  . cases h
  rename_i p1 s2 e1
  cases h;have h0:=(pR t _ _ _ _ e1 (((hs.push [] 0 false zo).push [] 0 false zo).link i _)).link p1 [I s.kN+1];cases o<;>by_cases hm:m=0<;>simp only[hm,if_true,if_false,Bool.false_eq_true]
  . exact (h0.link _ _).link _ _
  . exact h0.link _ _
  . exact h0.link _ _
  omega
theorem zdx:∀ (l:List aL) (i p:Nat) (s s':bC),qL l i s=some (p,s')->PlOk s->PlOk s'
 | [],i,p,s,s',h,hs=>by
  grind [qL]
 | t::l,i,p,s,s',h,hs=>by
  rw[zaP] at h;cases e:fE t i s with
  | none=>grind
  | some x=>
   obtain⟨q,s2⟩:=x;rw[e] at h;exact zdx l _ _ _ _ h (pR t _ _ _ _ e hs)
end
theorem zey:∀ (n:Nat) (l:ο),l.Nodup->(∀ x∈l,x<n)->I l<=n
 | 0,l,_,h=>by
  cases l with
  | nil=>simp
  | cons a l=>grind [List.mem_cons_self]
 | n+1,l,hd,h=>by
  by_cases hm:n∈l
  . have:=zey n (l.erase n) (hd.erase n) (λx hx=>by
     grind)
    grind
  have:=zey n l hd (λx hx=>by
   grind)
  omega
theorem dfs_nodup :∀ (f:Nat),(∀ k l l2,dfs G f k l=some l2->l.Nodup->l2.Nodup)/\(∀ r l l2,pI G f r l=some l2->l.Nodup->l2.Nodup):=by
 intro f
 induction f with
 | zero=>grind [dfs,pI]
 | succ f ih=>
  refine⟨λk l l2 h hl=> ?_,λr l l2 h hl=> ?_⟩
  . grind [dfs]
  exact zzCU
theorem zfh {f k:Nat} {l:ο} (NP:∀ i j,i<I G->j∈bD G i->j<I G) (h:dfs G f k []=some l) (hk:k<I G):I l<=I G:=
 zey _ _ ((dfs_nodup f).1 _ _ _ h List.nodup_nil) ((dfs_lt NP f).1 _ _ _ h hk (λx hx=>by cases hx))
section
variable {w w':ω} {tag He:Nat->Nat} {bl bm:Nat} {cL:List θ} {rU:List Int} {fO:List aZ} {Hd bE:ο} {vc vf vr vb:Value} {Ql QN:ζ}
theorem uS.keep1 (h:uS w tag bl bm cL rU fO Hd bE vc vf vr vb Ql QN) (hk:∀ b,b<w.heap.size->1<=tag b->tag b<=7->w'.e w b) (ht:∀ b,b<w.heap.size->He b=tag b):uS w' He bl bm cL rU fO Hd bE vc vf vr vb Ql QN:=by
 have own:∀ {v:Value} {e:TypeId} {size n:Nat} {xs:ζ} {c:Nat},w.r e size v n xs->(∀ g,β v=some g->tag g=c)->1<=c->c<=7->w'.r e size v n xs:=
  λhr Cx h1 h7=>aU hr λg hg=>hk g (hr.lt g hg).2 zg zg
 have tg:∀ {v:Value} {e:TypeId} {size n:Nat} {xs:ζ} {c:Nat},w.r e size v n xs->(∀ g,β v=some g->tag g=c)->∀ g,β v=some g->He g=c:=
  λhr Cx g hg=>(ht g (hr.lt g hg).2).trans (Cx g hg)
 refine⟨?_,?_,?_,?_,own h.rc h.t3 zd zd,?_,own h.rr h.t4 zd zd,own h.rf h.t6 zd zd,own h.rb h.t5 zd zd,h.bb,tg h.rc h.t3,tg h.rr h.t4,tg h.rb h.t5,tg h.rf h.t6⟩
 . exact (hk bl (aA h.hl) zzAh zzAh).trans h.hl
 . exact (hk bm (aA h.hm) zzBU zzBU).trans h.hm
 . exact (ht bl (aA h.hl)).trans h.tl
 . exact (ht bm (aA h.hm)).trans h.tm
 intro i c hc
 obtain⟨cv,h1,h2,h3⟩:=h.cc i c hc;exact⟨cv,h1,own h2 h3 zd zd,tg h2 h3⟩
theorem uS.addFollow (h:uS w tag bl bm cL rU fO Hd bE vc vf vr vb Ql QN) (hu:kP tag He 6 bl w w') (v':Value) (x:aZ) (hl:w'.h bl #[vc,v',vr] 159)
 (Hb:w'.r 176 2 v' (I fO+1) (setCells fO++[υ x.1,υ x.2])) (ht:∀ g,β v'=some g->He g=6):
 uS w' He bl bm cL rU (fO++[x]) Hd bE vc v' vr vb Ql QN:=by
 have qg:bm≠bl:=λe=>by have:=h.tm;rw[e,h.tl] at this;omega
 have b2:=hu.blk h.hm zzBU qg;have r3:=hu.row h.rc h.t3 zd zzAh;have r5:=hu.row h.rb h.t5 zd zzAh;have r4:=hu.row h.rr h.t4 zd zzAh;refine⟨hl,b2.1,(hu.tags bl (aA h.hl)).trans h.tl,b2.2.trans h.tm,r3.1,?_,r4.1,by simpa[setCells] using Hb,r5.1,h.bb,r3.2,r4.2,r5.2,ht⟩;intro i y hy;obtain⟨cv0,h1,h2,h3⟩:=h.cc i y hy;have r:=hu.row h2 h3 zd zzAh;exact⟨cv0,h1,r.1,r.2⟩
theorem uS.pushFollow (h:uS w tag bl bm cL rU fO Hd bE vc vf vr vb Ql QN) {w1:ω} {V v':Value} {x:aZ} (ob:Obj) (hV:vf=V)
 (Hb:w1.r 176 2 v' (I fO+1) (setCells fO++[υ x.1,υ x.2])) (hg:(κ w ob).drew.grownBy w1 (β V)) (qh:β v'=β V\/β v'=some (κ w ob).drew.heap.size):
 ∃ ya v1,kP tag ya 6 bl w (ς w1 (bl.p 1) v')/\uS (ς w1 (bl.p 1) v') ya bl bm cL rU (fO++[x]) Hd bE vc v1 vr vb Ql QN:=by
 subst hV;obtain⟨ya,hA,Qy,CW,Cx⟩:=oR (tag:=tag) (c:=6) (b:=bl) (off:=1) ob h.hl zzAh (λg Q2=>⟨(h.rf.lt g Q2).2,h.t6 g Q2⟩) Hb ⟨hg.os,hg.tape,hg.output,hg.size,hg.block⟩ qh;exact⟨ya,v',hA,h.addFollow hA v' x Qy CW Cx⟩
theorem jT {v:Value} {e:TypeId} {size n:Nat} {xs:ζ} {b o:Nat} (u:Value) (hr:w.r e size v n xs) (hv:β v≠some b):(ς w (b.p o) u).r e size v n xs:=
 aU hr λg hg=>aD _ _ _ _ (λe2=>hv zg)
theorem uS.setRule (h:uS w tag bl bm cL rU fO Hd bE vc vf vr vb Ql QN) (g cap n:Nat) (hv:vr=σ g (I rU) cap) (x:Int):
 uS (ς w (g.p n) (ι x)) tag bl bm cL (rU.set n x) fO Hd bE vc vf vr vb Ql QN:=by
 have:tag g=4:=h.t4 g (by rw[hv];rfl);have ne:∀ {v:Value} {c:Nat},(∀ g,β v=some g->tag g=c)->c≠4->β v≠some g:=λht hc e=>by grind
 have bne:∀ {b c:Nat},tag b=c->c≠4->b≠g:=λhb hc e=>by grind
 refine⟨(aD _ _ _ _ (bne h.tl zd)).trans h.hl,(aD _ _ _ _ (bne h.tm zd)).trans h.hm,h.tl,h.tm,jT _ h.rc (ne h.t3 zd),?_,?_,jT _ h.rf (ne h.t6 zd),jT _ h.rb (ne h.t5 zd),h.bb,h.t3,h.t4,h.t5,h.t6⟩
 . intro i c hc
   obtain⟨cv,h1,h2,h3⟩:=h.cc i c hc;exact⟨cv,h1,jT _ h2 (ne h3 zd),h3⟩
 have hr:=h.rr
 rw[hv] at hr ⊢;have:=(hr.stored n (ι x)).1;simp_all
theorem yI (l:List aZ) (i:Nat) (s:aZ) (h:l[i]?=some s):(setCells l)[2*i]?=some (υ s.1)/\(setCells l)[2*i+1]?=some (υ s.2):=by
 induction l generalizing i with
 | nil=>cases h
 | cons a l ih=>
  cases i with
  | zero=>cases h;exact⟨rfl,rfl⟩
  | succ i=>
   grind [setCells]
theorem rJ (l:List aZ):I (setCells l)=I l*2:=by
 induction l with
 | nil=>rfl
 | cons a l ih=>grind [setCells]
theorem uS.setFirst (h:uS w tag bl bm cL rU fO Hd bE vc vf vr vb Ql QN) (g cap:Nat) (hv:vf=σ g (I fO) cap) (s:aZ) (r:List aZ) (hf:fO=s::r) (x:aZ):
 uS (ς (ς w g.a (υ x.1)) (g.p 1) (υ x.2)) tag bl bm cL rU (x::r) Hd bE vc vf vr vb Ql QN:=by
 have:tag g=6:=h.t6 g (by rw[hv];rfl);have ne:∀ {v:Value} {c:Nat},(∀ g,β v=some g->tag g=c)->c≠6->β v≠some g:=λht hc e=>by grind
 have bne:∀ {b c:Nat},tag b=c->c≠6->b≠g:=λhb hc e=>by grind
 refine⟨((aD _ _ _ _ (bne h.tl zd)).trans (aD _ _ _ _ (bne h.tl zd))).trans h.hl,((aD _ _ _ _ (bne h.tm zd)).trans (aD _ _ _ _ (bne h.tm zd))).trans h.hm,h.tl,h.tm,jT _ (jT _ h.rc (ne h.t3 zd)) (ne h.t3 zd),?_,jT _ (jT _ h.rr (ne h.t4 zd)) (ne h.t4 zd),?_,jT _ (jT _ h.rb (ne h.t5 zd)) (ne h.t5 zd),h.bb,h.t3,h.t4,h.t5,h.t6⟩
 . intro i c hc
   obtain⟨cv,h1,h2,h3⟩:=h.cc i c hc;exact⟨cv,h1,jT _ (jT _ h2 (ne h3 zd)) (ne h3 zd),h3⟩
 have hr:=h.rf
 rw[hv,hf] at hr;have h1:=((hr.stored 0 (υ x.1)).1.stored 1 (υ x.2)).1;rw[hv,hf];exact h1
end
theorem sU.fI {w:ω} {tag:Nat->Nat} {Hd:ο} {vs:ζ} {seen:Nat->Bool} (h:sU w tag Hd vs G seen) (k:Nat) (hk:k<I G):
 sU (ς w ((χ Hd k 0).p 2) (φ true)) tag Hd vs (G.modify k finK) seen:=by
 have inj:∀ i j,i<I G->j<I G->χ Hd i 0=χ Hd j 0->i=j:=by
  exact zzC7
 have hl:I (G.modify k finK)=I G:=zs
 refine⟨by rw[hl];exact h.la,by rw[hl];exact h.lv,λi hi=> ?_,λi hi=> ?_,λi hi=>h.ta i zo,λi g hi=>h.tv i g zo,λi j hi hj=>by rw[hl] at hi ⊢;rw[sL] at hj;exact h.wf i j hi hj⟩
 . rw[hl] at hi
   rw[zas,zfl hk];by_cases e:i=k
   . subst e
     rw[aB w _ 2 _ _ _ _ (h.cell i hi),zP rfl];rfl
   exact zzDa
 rw[hl] at hi
 rw[sL];refine aU (h.row i hi) λg hg=>aD _ _ _ _ ?_;intro e;have h1:=h.tv i g hi hg;have h2:=h.ta k hk
 grind
theorem uQ.atKnot {w:ω} {tag:Nat->Nat} {Hd:ο} {vs:ζ} {seen:Nat->Bool} (h:sU w tag Hd vs G seen) (k:Nat) (hk:k<I G) (o:Nat) (v:Value):uQ tag tag w (ς w ((χ Hd k 0).p o) v):=
 ⟨rfl,rfl,rfl,zs,λ_ _=>rfl,λb hb ht=>aD _ _ _ _ (λe=>by have:=h.ta k hk;grind)⟩
