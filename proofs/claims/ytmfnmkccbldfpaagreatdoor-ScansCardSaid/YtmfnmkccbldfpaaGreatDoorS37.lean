/- Part of a proof. No condition. -/
import Derived.Test.YtmfnmkccbldfpaaGreatDoorS36
import Derived.Test.YtmfnmkccbldfpaaGreatDoorS21
set_option linter.unusedVariables false
set_option linter.unusedSimpArgs false
set_option maxRecDepth 100000
set_option maxHeartbeats 16000000
namespace Go.Proofs.YtmfnmkccbldfpaaGreatDoor
open Go.RowKit Go.Lib Tryz
theorem zzBz {p q:Prop} (k:q) (h:q->p:=by intro zz;refine cY 5 Hc ?_;refine cY 6 Hc ?_;refine cY 7 Hc ?_;refine cY 8 Hc ?_;refine cY 9 Hc ?_;refine cY 11 Hc ?_;refine cY 12 Hc ?_;refine cY 13 Hc ?_;refine cY 14 Hc ?_;exact zz):p:=h k
theorem zzA6 {p:Prop} (h:p:=by rw[<-hrel.on];exact Qr):p:=h
theorem zzAv {p:Prop} (h:p:=by
 rw[xY _ M (by rw[<-hrel.on];exact Qr)]
 exact xX h B mb D S w M hm hrel Qr):p:=h
variable {N:List Nd} {nl:Value}
section
variable {P:Program} {ops:Array Oper} {Q:Exit->Act->World->Prop} {md:Region.Mode} {S:World->Prop}
end
theorem zgE {k:Nat} {d:Nd} {fa fb:Mk->lF×Mk} (hd:N[k]?=some d) (hk:d.k=3) (jv:xE N nl d.a fa) (ihb:xE N nl d.b fb)
 (JB:∀ M,iJ M->iJ (fa M).2/\eT (fa M).1 (I ((fa M).2.fL))/\I M.fL<=I ((fa M).2.fL))
 (xg:∀ M,iJ M->iJ (fb M).2/\eT (fb M).1 (I ((fb M).2.fL))/\I M.fL<=I ((fb M).2.fL))
 (B mb:Nat) (D:MD) (S:MS) (w:ω) (M:Mk) (h:nZ B mb N nl D S w) (hr:mV D M) (Hq:iJ M) (Qr:D.on=false):
 Γ 33 #[bH mb,ι k] w (uT B mb N nl S (zcc (fa M).1 (fb (fa M).2).1,(fb (fa M).2).2) w):=by
 have Px:=zh Qr;have QA:=zh Hq;obtain⟨YT,Y5,P1⟩:=JB M Hq;obtain⟨pj,Vr,TX⟩:=xg (fa M).2 YT;have Pv:=zh jv;have Lz:=zh ihb;obtain⟨ra,VS⟩:=zE (fa M);rw[<-VS] at YT Y5 P1 pj Vr TX ⊢;obtain⟨rb,Xm⟩:=zE (fb ra.2);rw[<-Xm] at pj Vr TX ⊢;obtain⟨⟨e1,f1,l1⟩,M1⟩:=ra;obtain⟨⟨e2,f2,l2⟩,M2⟩:=rb;dsimp only at*;have VZ:=zh VS;have Ug:=zh Xm;have ko:zH (iJ M1/\eT ⟨e1,f1,l1⟩ (I M1.fL)):=zh ⟨YT,Y5⟩
 have Xa:zH (iJ M2/\eT ⟨e2,f2,l2⟩ (I M2.fL)/\eT ⟨e1,f1,l1⟩ (I M2.fL)):=zh ⟨pj,Vr,Y5.mono TX⟩;clear Hq YT Y5 P1 pj Vr TX JB xg jv ihb VS Xm;obtain⟨c0,c1,c2,c3,c4⟩:=h.cells;rw[Qr] at c4;obtain⟨Vm,cr,x7⟩:=kF (h.nrg d (zM hd)).1;obtain⟨gN,Y1,YS,GT,jn⟩:∃ g c,nl=σ g (I N) c/\k<I N/\g<w.t:=by
  exact zzAT
 have QK:=h.nrow;rw[YS] at QK;obtain⟨d0,d1,d2,d3,d4⟩:=pC N k d hd;have n0:=aJ QK _ _ d0;have n1:=aJ QK _ _ d1;have n2:=aJ QK _ _ d2;have n3:=aJ QK _ _ d3;have n4:=aJ QK _ _ d4;rw[x7] at n1;rw[YS] at c0;rw[hk] at n0;have zk:=zt k (I N)
 have Qa:=zh (zbE w d);rw[x7,hk] at Qa;have H:=Λ h hr hd;have Yv:w.heap.size<w.heap.size+1+1:=zo
 have yh:zH (mb<w.heap.size):=zh h.lt;clear h hr QK x7 YS d0 d1 d2 d3 d4 Qr hd hk;unfold bH;obtain⟨A,hA⟩:∃ A,w.heap.size=A:=⟨_,rfl⟩;rw[hA] at Qa yh jn Yv;have Y6:=yh.o;go_in;go_upto_region 2 with fail
 generalize QG:(κ (κ w (Ω #[φ false,ν,ν] 112)) (Ω #[ι ((3:Nat):Int),τ Vm (I d.rl) cr,ι d.a,ι d.b,ι d.n] 192))=w2 at Qa ⊢;clear QG n0 n1 n2 n3 n4 c0 c1 c2 c3 c4 zk jn;have HW:zH (w.t=A):=zh hA;clear hA Y6 Yv;have yr:zH (nZ B mb N nl D S w2):=zh (H.o.1.below zzBl);obtain⟨_,c1,c2,c3,c4⟩:=yr.o.cells;rw[Px.o] at c4;obtain⟨m0,m1,m2,m3,m4⟩:=Qa.o.ncells
 have Y6:mb<w2.t:=yr.o.lt;have Y8:zH (CSt B mb N nl S w A 3 (τ Vm (I d.rl) cr) d D S w2):=zh ⟨yr.o,oN.of_below (Qa.o.b.mono (Nat.le_of_eq HW.o)),Qa.o.r,Qa.o.n,Nat.le_of_eq HW.o⟩;have QL:zH (mV D M):=zh H.o.2.1;clear yr H yh HW Qa;have HK:=zh (Pv.o B mb D S w2 M Y8.o.m QL.o QA.o);rw[<-VZ.o] at HK;unfold bH at HK;clear Y6
 go_upto_region 26 with (go_at_call 33;refine HK.o.mono ?_;rintro e' v3 ⟨D3,S3,QP,xp,yd,YU,rfl,g1,g2,g3,g4,g5⟩;have HG:=Ψ g1 g2 g3 (zAi g4 g5);clear g1 g2 g3 g4 g5)
 have XA:=zh ((Y8.o.call HG.o.1 HG.o.2.2.1).later (Ξ v3 (Ω #[φ e1,τ QP (I f1) yd,τ xp (I l1) YU] 112)));have Qk:=zh (nD (p:=⟨e1,f1,l1⟩) HG.o.1 HG.o.2.2.2.1 HG.o.2.2.2.2);have VA:zH (mV D3 M1):=zh HG.o.2.1;have Us:zH (w.heap.size<=v3.heap.size/\A<v3.t):=zh ⟨zT Y8.o.k.size HG.o.2.2.1.size,zLd (aA Y8.o.r) HG.o.2.2.1.size⟩;clear HG Y8 QL VZ Pv c1 c2 c3 c4 m0 m1 m2 m3 m4;dsimp only at Qk
 generalize v3.alloc (Ω #[φ e1,τ QP (I f1) yd,τ xp (I l1) YU] 112)=w4 at XA Qk ⊢;generalize v3.heap.size=P at Qk Us ⊢;obtain⟨m0,m1,m2,m3,m4⟩:=XA.o.ncells;have HK:=zh (Lz.o B mb D3 S3 w4 M1 XA.o.m VA.o ko.o.1);rw[<-Ug.o] at HK;unfold bH at HK;go_upto_region 27 with (go_at_call 33;refine HK.o.mono ?_;rintro e' v5 ⟨D5,S5,kt,vu,co5,vv,rfl,g1,g2,g3,g4,g5⟩;have HG:=Ψ g1 g2 g3 (zAi g4 g5);clear g1 g2 g3 g4 g5)
 have QT:=Ξ v5 (Ω #[φ e2,τ kt (I f2) co5,τ vu (I l2) vv] 112);have BO:=zh ((XA.o.call HG.o.1 HG.o.2.2.1).later QT);have HQ:=zh (nD (p:=⟨e2,f2,l2⟩) HG.o.1 HG.o.2.2.2.1 HG.o.2.2.2.2);have xz:=zh ((Qk.o.call XA.o.m HG.o.2.2.1).later QT);have vh:zH (mV D5 M2):=zh HG.o.2.1;have dq:zH (P<v5.t):=zh (zLd (aA Qk.o.b) HG.o.2.2.1.size);clear HG XA VA Ug Lz m0 m1 m2 m3 m4 Qk QT;dsimp only at HQ
 generalize v5.alloc (Ω #[φ e2,τ kt (I f2) co5,τ vu (I l2) vv] 112)=w6 at BO xz HQ ⊢;generalize v5.heap.size=Q at HQ dq ⊢;obtain⟨p0,p1,p2⟩:=xz.o.cells;obtain⟨q0,q1,q2⟩:=HQ.o.cells;dsimp only at p0 p1 p2 q0 q1 q2;have lP:=aA xz.o.b;have lQ:=aA HQ.o.b
 have Pw:zH (I f1<=65/\I l1<=65/\I f2<=65/\I l2<=65):=zh ⟨zT (dD Xa.o.2.2.fn Xa.o.2.2.f) Xa.o.1.le,zT (dD Xa.o.2.2.ln Xa.o.2.2.l) Xa.o.1.le,zT (dD Xa.o.2.1.fn Xa.o.2.1.f) Xa.o.1.le,zT (dD Xa.o.2.1.ln Xa.o.2.1.l) Xa.o.1.le⟩;have xu:=(zBr w6.t w6).drew;have BP:=zh (BO.o.later xu);have FH:=zh (xz.o.later xu);have Wv:=zh (HQ.o.later xu)
 have bj:=zh (lX (τ QP (I f1) yd) (τ kt (I f2) co5) (gE f1) (gE f2) w6.drew FH.o.f.1 Wv.o.f.1 zzA5 zzA5);rw[<-mL,bZ] at bj;obtain⟨J1,TJ⟩:=zE (dH f1 f2);rw[<-TJ] at bj;have ID:=zh TJ;obtain⟨J2,Bf⟩:=zE (dH l1 l2);have bh:=zh Bf;clear TJ Bf xu
 have SS:w6.v P 0 (φ e1)/\w6.v P 1 (τ QP (I f1) yd)/\w6.v P 2 (τ xp (I l1) YU)/\w6.v Q 0 (φ e2)/\w6.v Q 1 (τ kt (I f2) co5)/\w6.v Q 2 (τ vu (I l2) vv):=⟨p0,p1,p2,q0,q1,q2⟩
 have CX:∀ wx:ω,(∀ g,g≠A->g<w6.t->wx.e w6 g)->(wx.v P 0 (φ e1)/\wx.v P 1 (τ QP (I f1) yd)/\wx.v P 2 (τ xp (I l1) YU)/\wx.v Q 0 (φ e2)/\wx.v Q 1 (τ kt (I f2) co5)/\wx.v Q 2 (τ vu (I l2) vv)):=λwx hb=>by
  have h1:=(hb P (by have:=Us.o;omega) lP).trans xz.o.b;have h2:=(hb Q (by have:=Us.o;have:=dq.o;omega) lQ).trans HQ.o.b;exact⟨by rw[zQ 0 h1];rfl,by rw[zQ 1 h1];rfl,by rw[zQ 2 h1];rfl,by rw[zQ 0 h2];rfl,by rw[zQ 1 h2];rfl,by rw[zQ 2 h2];rfl⟩
 have Uo:=zh CX;clear CX p0 p1 p2 q0 q1 q2;cases e1
 . go_upto_region 27 with fail
   refine zzAl ?_;refine wp_region_held_drew (S:=λw'=>w'.v P 0 (φ false)/\w'.v P 1 (τ QP (I f1) yd)/\w'.v P 2 (τ xp (I l1) YU)/\w'.v Q 0 (φ e2)/\w'.v Q 1 (τ kt (I f2) co5)/\w'.v Q 2 (τ vu (I l2) vv)) zr SS (λHc=> ?_);clear SS;refine cY 0 Hc ?_;refine cY 1 Hc ?_;refine cY 2 Hc ?_;refine cY 3 Hc ?_;refine cY 4 Hc ?_;refine zzBz ?_;refine uY 10 (λK hK=> ?_);go_simp;go_at_call 34;refine bj.o.mono ?_;rintro e v7 ⟨Qi,Qj,rfl,hn⟩;have QO:=zh hn;have J7:=Uo.o v7 (λg _ hg=>hn.2.2.block g hg);clear hn;refine hK.out _ _ J7 (λyy=> ?_);clear hK K Hc;have Hc:=yy;clear yy;refine zzAF ?_;clear J7;have Yq:=zh (BP.o.later QO.o.2.2);have CF:=zh (FH.o.later QO.o.2.2);have Wu:=zh (Wv.o.later QO.o.2.2)
   have Lu:zH (iN mb S5 v7 (τ Qi (I J1) Qj) J1):=zh (oG BP.o.m QO.o);have VX:=zh (lX (τ xp (I l1) YU) (τ vu (I l2) vv) (gE l1) (gE l2) v7 CF.o.l.1 Wu.o.l.1 zzA5 zzA5);rw[<-mL,bZ,<-bh.o] at VX;refine uY 15 (λK hK=> ?_);go_simp;go_at_call 34;refine VX.o.mono ?_;rintro e v8 ⟨QB,QC,rfl,hn⟩;have Q4:=zh hn
   have J7:=Uo.o v8 (λg _ hg=>(hn.2.2.block g (zLd hg QO.o.2.2.size)).trans (QO.o.2.2.block g hg));clear hn;refine hK.out _ _ J7 (λyy=> ?_);clear hK K Hc;have Hc:=yy;clear yy;refine zzAF ?_;clear J7;have XX:=zh (Yq.o.later Q4.o.2.2);have wP:=zh (Lu.o.keep (oN.of_below (S:=S5) (mb:=mb) Q4.o.2.2));have Wb:zH (iN mb S5 v8 (τ QB (I J2) QC) J2):=zh (oG Yq.o.m Q4.o)
   obtain⟨x0,y0,x1,y1,x2,y2⟩:=iG XX.o.r (φ e2) (τ Qi (I J1) Qj);obtain⟨z0,z1,z2,zk,zb⟩:=jS XX.o.r (φ e2) (τ Qi (I J1) Qj) (τ QB (I J2) QC);have WR:=Ψ z0 z1 z2 (zAi zk zb);have J7:=Uo.o (ς (ς (ς v8 A.a (φ e2)) (A.p 1) (τ Qi (I J1) Qj)) (A.p 2) (τ QB (I J2) QC)) (λg hg hl=>(zk g hg).trans ((Q4.o.2.2.block g (zLd hl QO.o.2.2.size)).trans (QO.o.2.2.block g hl)))
   clear z0 z1 z2 zk zb;refine cY 16 Hc ?_;refine uY 17 (λK hK=> ?_);go_simp;refine hK.out _ _ J7 (λyy=> ?_);clear hK K Hc;have Hc:=yy;clear yy;refine zzAF ?_;refine wpAnyH_done zr ?_ _;refine NoPanic.normal ?_;clear J7 x0 y0 x1 y1 x2 y2 Hc;obtain⟨z0,z1,z2,zk,zb⟩:=WR.o;go_wp2_with fail;refine bodyPost_ret (v:=.agg #[φ e2,τ Qi (I J1) Qj,τ QB (I J2) QC]) zzAd rfl ?_
   have Hg:=XX.o.fin vh.o (p:=⟨e2,J1,J2⟩) wP.o Wb.o zk zb;have hp:(⟨e2,J1,J2⟩:lF)=zcc ⟨false,f1,l1⟩ ⟨e2,f2,l2⟩:=by
    rw[ID.o,bh.o];rfl
   rw[<-hp];exact Hg
 go_upto_region 27 with fail
 refine zzAl ?_;refine wp_region_held_drew (S:=λw'=>w'.v P 0 (φ true)/\w'.v P 1 (τ QP (I f1) yd)/\w'.v P 2 (τ xp (I l1) YU)/\w'.v Q 0 (φ e2)/\w'.v Q 1 (τ kt (I f2) co5)/\w'.v Q 2 (τ vu (I l2) vv)) zr SS (λHc=> ?_);clear SS;refine cY 0 Hc ?_;refine cY 1 Hc ?_;refine cY 2 Hc ?_;refine jB 3 zr zK zK zK (λ_ _ _ h=>h) zr Hc ?_;refine zzAF ?_;refine jB 4 zr zK zK zK (λ_ _ _ h=>h) zr Hc ?_;refine zzAF ?_;refine zzBz ?_;refine uY 10 (λK hK=> ?_);go_simp;go_at_call 34;refine bj.o.mono ?_;rintro e v7 ⟨Qi,Qj,rfl,hn⟩;have QO:=zh hn;have J7:=Uo.o v7 (λg _ hg=>hn.2.2.block g hg);clear hn;refine hK.out _ _ J7 (λyy=> ?_);clear hK K Hc;have Hc:=yy;clear yy;refine zzAF ?_;clear J7;have Yq:=zh (BP.o.later QO.o.2.2);have CF:=zh (FH.o.later QO.o.2.2);have Wu:=zh (Wv.o.later QO.o.2.2)
 have Lu:zH (iN mb S5 v7 (τ Qi (I J1) Qj) J1):=zh (oG BP.o.m QO.o);have VX:=zh (lX (τ xp (I l1) YU) (τ vu (I l2) vv) (gE l1) (gE l2) v7 CF.o.l.1 Wu.o.l.1 zzA5 zzA5);rw[<-mL,bZ,<-bh.o] at VX;refine uY 15 (λK hK=> ?_);go_simp;go_at_call 34;refine VX.o.mono ?_;rintro e v8 ⟨QB,QC,rfl,hn⟩;have Q4:=zh hn
 have J7:=Uo.o v8 (λg _ hg=>(hn.2.2.block g (zLd hg QO.o.2.2.size)).trans (QO.o.2.2.block g hg));clear hn;refine hK.out _ _ J7 (λyy=> ?_);clear hK K Hc;have Hc:=yy;clear yy;refine zzAF ?_;clear J7;have XX:=zh (Yq.o.later Q4.o.2.2);have wP:=zh (Lu.o.keep (oN.of_below (S:=S5) (mb:=mb) Q4.o.2.2));have Wb:zH (iN mb S5 v8 (τ QB (I J2) QC) J2):=zh (oG Yq.o.m Q4.o)
 obtain⟨x0,y0,x1,y1,x2,y2⟩:=iG XX.o.r (φ true) (τ Qi (I J1) Qj);obtain⟨z0,z1,z2,zk,zb⟩:=jS XX.o.r (φ true) (τ Qi (I J1) Qj) (τ QB (I J2) QC);have WR:=Ψ z0 z1 z2 (zAi zk zb);have J7:=Uo.o (ς (ς (ς v8 A.a (φ true)) (A.p 1) (τ Qi (I J1) Qj)) (A.p 2) (τ QB (I J2) QC)) (λg hg hl=>(zk g hg).trans ((Q4.o.2.2.block g (zLd hl QO.o.2.2.size)).trans (QO.o.2.2.block g hl)))
 clear z0 z1 z2 zk zb;refine cY 16 Hc ?_;refine uY 17 (λK hK=> ?_);go_simp;refine hK.out _ _ J7 (λyy=> ?_);clear hK K Hc;have Hc:=yy;clear yy;refine zzAF ?_;refine wpAnyH_done zr ?_ _;refine NoPanic.normal ?_;clear J7 x0 y0 x1 y1 x2 y2 Hc;obtain⟨z0,z1,z2,zk,zb⟩:=WR.o;go_wp2;refine bodyPost_ret (v:=.agg #[φ true,τ Qi (I J1) Qj,τ QB (I J2) QC]) zzAd rfl ?_
 have Hg:=XX.o.fin vh.o (p:=⟨true,J1,J2⟩) wP.o Wb.o zk zb;have hp:(⟨true,J1,J2⟩:lF)=zcc ⟨true,f1,l1⟩ ⟨e2,f2,l2⟩:=by
  rw[ID.o,bh.o];rfl
 rw[<-hp];exact Hg
theorem zbm (t:aL):∀ M,iJ M->iJ (fP t M).2/\eT (fP t M).1 (I ((fP t M).2.fL))/\I M.fL<=I ((fP t M).2.fL):=λM h=>rA t M h
theorem mkR_hyp (l:List aL):∀ M,iJ M->iJ (mkR l iU M).2/\eT (mkR l iU M).1 (I ((mkR l iU M).2.fL))/\I M.fL<=I ((mkR l iU M).2.fL):=λM h=>mkR_ok l iU M h (oF _)
mutual
theorem pT :∀ {k:Nat} {t:aL},cX N k t->xE N nl k (fP t)
 | _,_,.place k d c h hk hn hc hr=>λB mb D S w M hm hrel Hq=>by
  by_cases Qr:D.on=true
  . exact zzAv
  . exact ziJ h hk hc hr B mb D S w M hm hrel Hq zg
 | _,_,.row k l h=>λB mb D S w M hm hrel Hq=>by
  rw[fP];exact zhF h B mb D S w M hm hrel Hq
 | _,_,.either k d x y h hk hn hx hy=>λB mb D S w M hm hrel Hq=>by
  by_cases Qr:D.on=true
  . exact zzAv
  . rw[fP,zN zzA6]
    exact zgE h hk (pT hx) (pT hy) (zbm x) (zbm y) B mb D S w M hm hrel Hq zg
 | _,_,.star k d t h hk hn ht=>λB mb D S w M hm hrel Hq=>by
  by_cases Qr:D.on=true
  . exact zzAv
  . rw[fP,zN zzA6,zN zd]
    exact zjf h hk (.inl rfl) (pT ht) (zbm t) B mb D S w M hm hrel Hq zg
 | _,_,.plus k d t h hk hn ht=>λB mb D S w M hm hrel Hq=>by
  by_cases Qr:D.on=true
  . exact zzAv
  . rw[fP,zN zzA6,zN zd]
    exact zjf h hk (.inr (.inl rfl)) (pT ht) (zbm t) B mb D S w M hm hrel Hq zg
 | _,_,.opt k d t h hk hn ht=>λB mb D S w M hm hrel Hq=>by
  by_cases Qr:D.on=true
  . exact zzAv
  rw[fP,zN zzA6,zP rfl]
  have e:((fP t M).1.emp||decide ((0:Int)=0))=true:=zs
  rw[e];exact zjf h hk (.inr (.inr rfl)) (pT ht) (zbm t) B mb D S w M hm hrel Hq zg
theorem zhF :∀ {k:Nat} {l:List aL},oA N k l->xE N nl k (mkR l iU)
 | _,_,.nil k d h hk hn=>λB mb D S w M hm hrel Hq=>by
  rw[mkR];by_cases Qr:D.on=true
  . exact xX h B mb D S w M hm hrel Qr
  . exact make_nil h hk B mb D S w M hm hrel zg
 | _,_,.snoc k d l t h hk hn hl ht=>λB mb D S w M hm hrel Hq=>by
  by_cases Qr:D.on=true
  . rw[mkR_on _ M zzA6]
    exact xX h B mb D S w M hm hrel Qr
  rw[mkR_snoc]
  exact make_cat h hk (zhF hl) (pT ht) (mkR_hyp l) (zbm t) B mb D S w M hm hrel Hq zg
end
