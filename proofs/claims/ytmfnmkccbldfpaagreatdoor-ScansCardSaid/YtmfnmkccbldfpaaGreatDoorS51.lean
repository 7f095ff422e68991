/- Part of a proof. No condition. -/
import Derived.Test.YtmfnmkccbldfpaaGreatDoorS38
set_option linter.unusedVariables false
set_option linter.unusedSimpArgs false
set_option maxRecDepth 100000
set_option maxHeartbeats 16000000
namespace Go.Proofs.YtmfnmkccbldfpaaGreatDoor
open Go.RowKit Go.Lib Tryz
theorem zzDr {p:Prop} (h:p:=by
 obtain⟨h1,h2,h3,h4⟩:=h;refine .inl ⟨zg,zg,?_⟩
 grind):p:=h
theorem zzDl {p:Prop} (h:p:=by
 split at hy
 . rw[zMs] at hy;subst hy;dsimp only;omega
 cases hy):p:=h
theorem zzDK {p:Prop} (h:p:=by have:=YX.o;omega):p:=h
theorem zzDH {p:Prop} (h:p:=by
 rw[h2]
 exact⟨k,y,yx,rfl,hl.pr,hl.pk,hl.pre,hl.lt,hl.le,rfl,rfl,h1,h3⟩):p:=h
theorem zzDA {p q:Prop} (k:q) (h:q->p:=by intro zz;show (match gY s y.aQ t with| .ok (T,q)=>_| .error er=>_:Prop);exact zz):p:=h k
theorem zzCJ {p:Prop} (h:p:=by show y.ns.length<=1000000;have:=YX.o;omega):p:=h
theorem zzAq {p:Prop} (h:p:=by
 go_wp2;go_quiet (fail);have yl:=zh (PF.o.below (aK (zBr _ w3) nq));generalize w3.drewN nq=w5 at yl ⊢;go_wp2;go_meet;exact⟨by rw[PI],yl.o⟩):p:=h
theorem zzAj {p:Prop} (h:p:=by
 have b9':((nd.n:Int)==0)=false:=by have:=Tr.o.2.1;simp;omega
 have BT:¬ yS s m n q2 t:=(by unfold yS;rw[Ym];simp only[Bool.true_eq_false,false_or];omega);go_wp2;go_quiet (fail);have QJ:=zh (yl.o.below (aK (zBr _ w5) nq));generalize w5.drewN nq=w6 at QJ ⊢;go_wp2;go_meet;exact⟨false,rfl,QJ.o,zg⟩):p:=h
theorem zzAJ {p:Prop} (h:p:=by
 go_wp2;go_quiet (fail);have QJ:=zh (yl.o.below (aK (zBr _ w5) nq));generalize w5.drewN nq=w6 at QJ ⊢;go_wp2;go_meet;exact⟨true,rfl,QJ.o,zg⟩):p:=h
variable {s:η} {q b k p k2 a m f:Nat} {er:mP} {l:θ} {y2:Pr} {t u:aL}
def TmS (B pb:Nat) (s:η) (x:Pr) (lv:Value) (w:ω) (q:Nat) (wr:ω):Prop:=gD B pb s {x with aQ:=q} lv wr/\PK pb lv lv w wr
section
variable {B pb:Nat} {s:η} {x:Pr} {lv:Value} {w wr w2:ω} {q:Nat}
theorem TmS.below (h:TmS B pb s x lv w q wr) (hb:wr.u w2):TmS B pb s x lv w q w2:=⟨h.1.below hb,h.2.trans (PK.of_below hb)⟩
theorem TmS.inc (h:TmS B pb s x lv w q wr) (hq:q+1<=s.size):TmS B pb s x lv w (q+1) (ς wr (pb.p 1) (ι ((q:Int)+1))):=
 ⟨h.1.set 1 (ι ((q:Int)+1)) {x with aQ:=q+1} zs rfl ⟨hq,h.1.sz.2.2.1,h.1.sz.2.2.2⟩,h.2.trans (PK.set 1 _)⟩
theorem TmS.count (h:TmS B pb s x lv w q wr):Γ 144 #[bH pb] wr λe w'=>∃ (v:Int) (q2:Nat),e=ρ (ι v)/\TmS B pb s x lv w q2 w'/\q<=q2/\q2<=s.size/\CntR s q v q2:=by
 refine (count_any B pb s _ lv wr h.1).mono ?_;rintro e w' ⟨v,q2,h1,h2,h3,h4,h5⟩;exact⟨v,q2,h1,⟨h2.1,h.2.trans h2.2⟩,h3,h4,h5⟩
theorem TmS.facts (h:TmS B pb s x lv w q wr):wr.v pb 0 (γ s)/\wr.i pb 1 q/\wr.v pb 4 lv/\pb<wr.t/\wr.q pb 1:=
 ⟨h.1.cells.1,h.1.cells.2.1,h.1.cells.2.2.2.2,h.1.lt,bN wr pb 1 _ _ h.1.blk⟩
theorem TmS.bad (h:TmS B pb s x lv w q wr) (he:x.e=0) (hk:x.aQ<=60):
 Γ 32 #[bH pb,ι 4,ι x.aQ] wr λe' w'=>e'=ρ (ϕ #[])/\gD B pb s {x with aQ:=q,e:=4,wh:=x.aQ} lv w'/\PK pb lv lv w w':=by
 refine (iQ B pb s _ lv wr h.1 4 x.aQ zd hk).mono ?_;rintro e' w' ⟨rfl,h1,h2⟩;refine⟨rfl,?_,h.2.trans h2⟩
 grind [fK]
end
theorem isbN {c:Nat} (h:uZ s q c=false):¬ q<s.size\/(q<s.size/\bL s q≠c):=by
 grind [uZ]
theorem isbY {c:Nat} (h:uZ s q c=true):q<s.size/\bL s q=c:=by
 grind [uZ]
theorem zi6 (B pb:Nat) (s:η) (x:Pr) (lv:Value) (w:ω) (h:gD B pb s x lv w) (he:x.e=0) (hx:x.aQ<s.size) (a:Nat) (t:aL) (ht:cX x.ns a t) (hl:I x.ns<=900000):
 Γ 125 #[bH pb,ι a] w (TrO B pb s x 0 0 3 (nX s x.aQ t) lv w):=by
 have:=h.sz;have HE:=Θ he (show x.aQ<=60 by omega);have B2:=Θ ht hl;obtain⟨nd,nw⟩:=ht.get;have Tr:=Λ nw (show (nd.n:Int)=cE t by rw[<-qR nw];exact ht.places) (show a<I x.ns from ht.lt);have Up:zH (TmS B pb s x lv w x.aQ w):=zh ⟨h,PK.refl _ _ _⟩;obtain⟨ao,cap,rfl⟩:∃ ao cap,lv=τ ao (I x.ns) cap:=by
  exact zzDj
 obtain⟨g,rfl⟩:∃ g,ao=some ⟨g,0,none⟩:=by
  rcases aY h.row with⟨_,e⟩|⟨g,cap,e,_⟩
  all_goals grind
 obtain⟨lv,CT⟩:=zE (Value.slice (some g.a) (I x.ns) cap);rw[<-CT] at Up h ⊢;have Wf:=zh CT;have:(a:Int)<(I x.ns:Int):=by have:=ht.lt;omega
 obtain⟨c00,c01,_,lp0,f01⟩:=Up.o.facts;have:=mF x.aQ;clear h he ht nw hl CT;unfold bH;go_in;go_upto_region 3 with fail
 have HT1:=zh (Up.o.inc zo);generalize w.setCell (pb.p 1) (ι ((x.aQ:Int)+1))=w1 at HT1 ⊢;have HC:=zh HT1.o.count;unfold bH at HC;clear c00 c01 lp0 f01;go_upto_region 5 with (go_at_call 144;refine HC.o.mono ?_;rintro e' w3 ⟨m,q,rfl,ho,hq1,Vs,Vo⟩;have PF:=zh ho;have Aa:=zh Vo;have Jn:=Vo.low;clear ho Vo)
 go_cut [43] (λs43 wx=>s43=φ (uZ s q 44)/\TmS B pb s x lv w q wx)
 case first=>
  obtain⟨c30,c31,_,lp3,f31⟩:=PF.o.facts;cases PI:uZ s q 44 with
  | false=>
   rcases isbN PI with z1|⟨z1,z2⟩
   . have z1':decide ((q:Int)<(s.size:Int))=false:=zx
     exact zzAq
   . have z1':=zt q s.size
     have Vq:=fX s q z1;have z2':((bL s q:Int)==44)=false:=zx
     exact zzAq
  | true=>
   obtain⟨z1,z2⟩:=isbY PI;have z1':=zt q s.size
   have Vq:=fX s q z1;have z2':((bL s q:Int)==44)=true:=zx
   exact zzAq
 case rest=>
 obtain⟨rfl,E8⟩:=hcut;have VE:=zh E8;clear E8 PF;obtain⟨w4,fh⟩:=zE (wc);rw[<-fh] at VE ⊢;clear fh;go_upto_if 43 with fail;go_cut [7] (λs7 wx=>∃ (n:Int) (q2:Nat),s7=ι n/\TmS B pb s x lv w q2 wx/\x.aQ<=q2/\zeX s q m n q2)
 case first=>
  cases PI:uZ s q 44 with
  | false=>
   go_wp2;go_meet;exact⟨m,q,rfl,VE.o,zo,.inl ⟨PI,rfl,rfl⟩⟩
  | true=>
   obtain⟨z1,z2⟩:=isbY PI;obtain⟨_,c41,_,lp4,f41⟩:=VE.o.facts;have:=mF q;go_upto_region 8 with fail;have A1:=zh (VE.o.inc zo);clear c41 lp4 f41;generalize w4.setCell (pb.p 1) (ι ((q:Int)+1))=w4b at A1 ⊢;obtain⟨r,hr⟩:=zE (q+1);rw[<-hr] at A1;have HR:=zh hr;have:q+1<=r/\r<=q+1:=zo
   clear hr;obtain⟨c40,c41,_,lp4,f41⟩:=A1.o.facts;by_cases hg:r<s.size/\bL s r≠125
   . have y1:=zt r s.size
     have Vq:=fX s r hg.1;have y2:((bL s r:Int) != 125)=true:=by have:=hg.2;simp;omega
     go_wp2;go_quiet (fail);have L9:=zh (A1.o.below (aK (zBr _ w4b) nq));generalize w4b.drewN nq=w4c at L9 ⊢;have HC:=zh L9.o.count;unfold bH at HC;clear Vq y2 c40 c41 lp4 f41;go_wp2_with (first|(go_at_call 144;refine HC.o.mono ?_;rintro e' w5 ⟨n,q2,rfl,ho,EX,BB,Vo⟩;have yl:=zh ho;have wF:=zh Vo;clear ho Vo));go_meet;exact⟨n,q2,rfl,yl.o,zo,.inr (.inr ⟨PI,by rw[<-HR.o];exact hg,by rw[<-HR.o];exact wF.o⟩)⟩
   . rcases (by omega:¬ r<s.size\/(r<s.size/\bL s r=125)) with y1|⟨y1,y2⟩
     . have y1':decide ((r:Int)<(s.size:Int))=false:=zx
       go_wp2;go_quiet (fail);have yl:=zh (A1.o.below (aK (zBr _ w4b) nq));generalize w4b.drewN nq=w5 at yl ⊢;clear c40 c41 lp4 f41;go_wp2;go_meet;exact⟨-2,r,rfl,yl.o,zo,.inr (.inl ⟨PI,zo,rfl,HR.o⟩)⟩
     . have y1':=zt r s.size
       have Vq:=fX s r y1;go_wp2;go_quiet (fail);have yl:=zh (A1.o.below (aK (zBr _ w4b) nq));generalize w4b.drewN nq=w5 at yl ⊢;clear c40 c41 lp4 f41;go_wp2;go_meet;exact⟨-2,r,rfl,yl.o,zo,.inr (.inl ⟨PI,by rw[<-HR.o];exact hg,rfl,HR.o⟩)⟩
 case rest=>
  obtain⟨n,q2,rfl,BE,hz5,y7⟩:=hcut;have yl:=zh BE;have HX5:=zh (times_eq (t:=t) Aa.o y7);have Se:=zh hz5;have:=y7.low Jn;clear BE hz5 y7 VE Aa;obtain⟨w5,Xz⟩:=zE (wc);rw[<-Xz] at yl ⊢;clear Xz;go_upto_if 132 with fail;go_cut [132] (λs132 wx=>∃ b:Bool,s132=φ b/\TmS B pb s x lv w q2 wx/\(b=true↔yS s m n q2 t))
  case first=>
   obtain⟨c50,c51,c54,lp5,f51⟩:=yl.o.facts;have NC:=yl.o.1.sz;dsimp only at NC;have xk:=yl.o.1.row;rw[Wf.o] at xk c54;dsimp only at xk;have:=aJ xk _ _ (uC _ _ _ Tr.o.1);clear xk;by_cases b1:m<0
   . have BT:yS s m n q2 t:=.inl b1
     exact zzAJ
   have:decide (m<0)=false:=by simpa using b1
   by_cases b2:n= -1
   . have b2':(n== -1)=true:=by simpa using b2
     have BT:yS s m n q2 t:=.inr (.inl b2);clear b2;exact zzAJ
   have b2':(n== -1)=false:=by simpa using b2
   cases Ym:uZ s q2 125 with
   | false=>
    rcases isbN Ym with b3|⟨b3,b4⟩
    . have b3':((q2:Int)==(s.size:Int))=true:=zx
      have BT:yS s m n q2 t:=.inr (.inr (.inl Ym));exact zzAJ
    . have b3':((q2:Int)==(s.size:Int))=false:=zx
      have Vq:=fX s q2 b3;have b4':((bL s q2:Int) != 125)=true:=zx
      have z3:=zt q2 s.size
      have BT:yS s m n q2 t:=.inr (.inr (.inl Ym));exact zzAJ
   | true=>
    obtain⟨b3,b4⟩:=isbY Ym;have b3':((q2:Int)==(s.size:Int))=false:=zx
    have Vq:=fX s q2 b3;have b4':((bL s q2:Int) != 125)=false:=zx
    have z3:=zt q2 s.size
    by_cases b5:8<m
    . have BT:yS s m n q2 t:=.inr (.inr (.inr (.inl b5)))
      exact zzAJ
    have:decide (8<m)=false:=by simpa using b5
    by_cases b6:8<n
    . have BT:yS s m n q2 t:=.inr (.inr (.inr (.inr (.inl b6))))
      exact zzAJ
    have:decide (8<n)=false:=by simpa using b6
    by_cases b7:0<=n
    . by_cases b8:n<m
      . have BT:yS s m n q2 t:=.inr (.inr (.inr (.inr (.inr (.inl ⟨b7,b8⟩)))))
        exact zzAJ
      have:decide (n<m)=false:=by simpa using b8
      by_cases b9:cE t=0
      . have b9':((nd.n:Int)==0)=true:=by rw[Tr.o.2.1,b9];rfl
        have BT:yS s m n q2 t:=.inr (.inr (.inr (.inr (.inr (.inr b9)))));exact zzAJ
      exact zzAj
    . have:decide (0<=n)=false:=by simpa using b7
      by_cases b9:cE t=0
      . have b9':((nd.n:Int)==0)=true:=by rw[Tr.o.2.1,b9];rfl
        have BT:yS s m n q2 t:=.inr (.inr (.inr (.inr (.inr (.inr b9)))));exact zzAJ
      exact zzAj
  case rest=>
   obtain⟨b,rfl,DM,Jy⟩:=hcut;have QJ:=zh DM;have Iy:=zh Jy;clear DM Jy yl;obtain⟨w6,fq⟩:=zE (wc);rw[<-fq] at QJ ⊢;clear fq;cases b with
   | true=>
    have BK:=zh (HX5.o.1 (Iy.o.1 rfl));have HF:=zh (QJ.o.bad HE.o.1 HE.o.2);unfold bH at HF;go_wp2_with (first|(go_at_call 32;refine HF.o.mono ?_;rintro e' w7 ⟨rfl,ho⟩;have H6:=zh ho;clear ho));go_ret;exact⟨a,_,lv,rfl,H6.o.1,H6.o.2,List.prefix_refl _,B2.o.1.lt,Se.o,by rw[BK.o];exact⟨rfl,rfl,(by decide:(4:Nat)≠0),by have:=Se.o;grind⟩⟩
   | false=>
    have t8:¬ yS s m n q2 t:=λh=>absurd (Iy.o.2 h) zd;have eb:=zh (HX5.o.2 t8);have OQ:=t8;unfold yS at OQ;have:q2<s.size:=(isbY (by cases h:uZ s q2 125 with|true=>rfl|false=>grind)).1;have:0<=m/\m<=8/\n≠ -1/\n<=8/\¬ (0<=n/\n<m):=zo
    clear t8 OQ;obtain⟨_,c61,_,lp6,f61⟩:=QJ.o.facts;have:=mF q2;go_upto_region 14 with fail
    have TF:=zh (QJ.o.inc zo);generalize w6.setCell (pb.p 1) (ι ((q2:Int)+1))=w7 at TF ⊢;obtain⟨mm,rfl⟩:∃ mm:Nat,m=(mm:Int):=⟨m.toNat,zo⟩;rw[Int.toNat_natCast] at eb;have R7:=zh (zit B pb s _ lv w7 TF.o.1 a t B2.o.1 mm n zo zo B2.o.2);unfold bH at R7;go_wp2_with (first|(go_at_call 145;refine R7.o.mono ?_;rintro e' w8 ⟨k,N,yx,rfl,ho⟩;have H8:=zh ho;clear ho));go_ret;obtain⟨g1,g2,g3,g4,g5,g6⟩:=H8.o
    exact⟨k,_,yx,rfl,g1,TF.o.2.trans g2,g3,g5,by show x.aQ<=q2+1;have:=Se.o;omega,by rw[eb.o];exact⟨rfl,rfl,rfl,g6,by have:=Se.o;grind⟩⟩
def repP (s:η) (r:Except mP (aL×Nat)):Except mP (aL×Nat):=match r with| .error e=>.error e| .ok (t,q)=>gY s q t
theorem again_eq (s:η) (q:Nat) (t:aL):gY s q t=
 if (bT s q).1<0/\0<(bT s q).2 then .error (2,q) else if (bT s q).1=42 then .ok (.rep t 0 false,q+1) else if (bT s q).1=43 then .ok (.rep t 1 false,q+1) else if (bT s q).1=63 then .ok (.rep t 0 true,q+1) else if (bT s q).1=123 then nX s q t else .ok (t,q):=by
 grind [gY,gA]
section
variable {B pb:Nat} {s:η} {x y:Pr} {lv yx:Value} {w w1 w2:ω} {c1 c2 d k:Nat}
theorem TrO.from {res:Except mP (aL×Nat)} {e:Ending} {a1 a2:Nat} (hp:PK pb lv yx w w1) (hn:x.ns<+:y.ns) (ha:x.aQ<=y.aQ) (he:y.e=x.e) (hw:y.wh=x.wh) (h:TrO B pb s y a1 a2 b res yx w1 e w2)
 (h1:I y.ns+20*x.aQ+d+a1<=I x.ns+20*y.aQ+c1+b) (h2:I y.ns+20*x.aQ+a2<=I x.ns+20*y.aQ+c2):TrO B pb s x c1 c2 d res lv w e w2:=by
 obtain⟨k,z,JI,rfl,g1,g2,g3,g4,g5,g6⟩:=h;refine⟨k,z,JI,rfl,g1,hp.trans g2,hn.trans g3,g4,zT ha g5,?_⟩;cases res with
 | ok r=>
  obtain⟨T,q⟩:=r;obtain⟨u1,u2,u3,u4,u5⟩:=g6;exact⟨u1.trans he,u2.trans hw,u3,u4,zo⟩
 | error er=>
  obtain⟨u1,u2,u3,u4⟩:=g6;exact⟨u1,u2,u3,zo⟩
end
theorem rrep_any (B pb:Nat) (s:η) (x:Pr) (lv:Value) (w:ω) (deep:Nat) (R:Except mP (aL×Nat)) (he:x.e=0) (hz:s.size<=60/\x.aQ<=s.size) (hl:I x.ns<=20*x.aQ+12)
 (hA:Γ 124 #[bH pb,ι deep] w (TrO B pb s x 0 4 19 R lv w)):
 Γ 111 #[bH pb,ι deep] w (TrO B pb s x 0 4 19 (repP s R) lv w):=by
 unfold bH at hA ⊢;go_in;go_upto_region 2 with (have H0:=hA;go_at_call 124;refine H0.mono ?_;rintro e' w1 ⟨k,y,Kr,rfl,Qd,Yr,QR,QF,Ap,js⟩;have Tw:=zh js)
 obtain⟨_,_,f2,_⟩:=Qd.cells;have ax:=Qd.sz;cases R with
 | error er=>
  obtain⟨u1,u2,u3,u4⟩:=Tw.o;have:((y.e:Int) != 0)=true:=zx
  have HF:zH (PK pb lv Kr w w1/\x.ns<+:y.ns/\k<I y.ns/\x.aQ<=y.aQ):=zh ⟨Yr,QR,QF,Ap⟩;clear Yr QR QF Ap u1 u2 u3;go_wp2;go_ret;exact⟨k,y,Kr,rfl,Qd,HF.o.1,HF.o.2.1,HF.o.2.2.1,HF.o.2.2.2,Tw.o⟩
 | ok r=>
 obtain⟨t,q⟩:=r;obtain⟨u1,u2,rfl,u4,u5⟩:=Tw.o;have C5:y.e=0:=by rw[u1];exact he
 rw[C5] at f2;have ey:=zh Qd.nb;have YX:zH (I y.ns+20*x.aQ+19<=I x.ns+20*y.aQ+0/\I x.ns<=20*x.aQ+12/\y.aQ<=60):=zh ⟨u5,hl,zo⟩;have HK:zH (PK pb lv Kr w w1/\True/\x.ns<+:y.ns/\k<I y.ns/\x.aQ<=y.aQ/\y.e=x.e/\y.wh=x.wh):=zh ⟨Yr,trivial,QR,QF,Ap,u1,u2⟩;have qx:=iR B pb s y Kr w1 Qd;have tM:zH (¬ ((bT s y.aQ).1<0/\0<(bT s y.aQ).2)->eI s y=y):=zh vV
 have tL:zH ((bT s y.aQ).1<0/\0<(bT s y.aQ).2->eI s y={y with e:=2,wh:=y.aQ}):=zh (zaZ C5);have Xt:=zh (oJ (s:=s) (p:=y.aQ));have C8:=zh (again_eq s y.aQ t);have qo:=nC s y.aQ ax.2.1;clear u1 u2 u5 Yr QR QF Ap Tw;generalize eI s y=y1 at qx tM tL;generalize bT s y.aQ=cn at qx qo tM tL Xt C8;obtain⟨c,n⟩:=cn;dsimp only at qx qo tM tL Xt C8;unfold bH at qx;go_upto_region 5 with (have H0:=qx;go_at_call 73;refine H0.mono ?_;rintro e' w2 ⟨rfl,ho⟩)
 by_cases mi:c=42
 . subst mi
   have YW:=ho;rw[tM.o zo] at YW;obtain⟨QR,Qq⟩:=Xt.o zo;subst QR;obtain⟨_,f21,_⟩:=YW.1.cells;have ff1:=bN w2 pb 1 _ _ YW.1.blk;have Ht:=YW.1.set 1 (ι ((y.aQ:Int)+1)) {y with aQ:=y.aQ+1} zs rfl ⟨zg,YW.1.sz.2.2.1,YW.1.sz.2.2.2⟩;have HN:=zh (nT Ht 4 k 0 zo (λ_=>HK.o.2.2.2.1) zo zzCJ);have j4:=zh (YW.2.trans (PK.set (pb:=pb) (v:=Kr) 1 (w:=w2) (ι ((y.aQ:Int)+1))))
   have YJ:=mF y.aQ;have QM:zH (gY s y.aQ t=.ok (.rep t 0 false,y.aQ+1)):=zh (by assumption);unfold bH at HN;go_wp2_with (first|(have H0:=HN.o;go_at_call 74;refine H0.mono ?_;rintro e' w3 ⟨tB,rfl,ho⟩));go_ret;have hk:=HK.o;refine⟨_,_,tB,rfl,ho.1,hk.1.trans (j4.o.trans ho.2),hk.2.2.1.trans (jK _ _),zs,zg,?_⟩;refine zzDA ?_;rw[QM.o]
   exact⟨HK.o.2.2.2.2.2.1,HK.o.2.2.2.2.2.2,rfl,(λN hN h=>mk_star hN h) y.ns ey.o u4,by have:=YX.o;grind⟩
 by_cases mj:c=43
 . subst mj
   have YW:=ho;rw[tM.o zo] at YW;obtain⟨QR,Qq⟩:=Xt.o zo;subst QR;obtain⟨_,f21,_⟩:=YW.1.cells;have ff1:=bN w2 pb 1 _ _ YW.1.blk;have Ht:=YW.1.set 1 (ι ((y.aQ:Int)+1)) {y with aQ:=y.aQ+1} zs rfl ⟨zg,YW.1.sz.2.2.1,YW.1.sz.2.2.2⟩;have HN:=zh (nT Ht 5 k 0 zo (λ_=>HK.o.2.2.2.1) zo zzCJ);have j4:=zh (YW.2.trans (PK.set (pb:=pb) (v:=Kr) 1 (w:=w2) (ι ((y.aQ:Int)+1))))
   have YJ:=mF y.aQ;have QM:zH (gY s y.aQ t=.ok (.rep t 1 false,y.aQ+1)):=zh (by assumption);unfold bH at HN;go_wp2_with (first|(have H0:=HN.o;go_at_call 74;refine H0.mono ?_;rintro e' w3 ⟨tB,rfl,ho⟩));go_ret;have hk:=HK.o;refine⟨_,_,tB,rfl,ho.1,hk.1.trans (j4.o.trans ho.2),hk.2.2.1.trans (jK _ _),zs,zg,?_⟩;refine zzDA ?_;rw[QM.o]
   exact⟨HK.o.2.2.2.2.2.1,HK.o.2.2.2.2.2.2,rfl,(λN hN h=>mk_plus hN h) y.ns ey.o u4,by have:=YX.o;grind⟩
 by_cases F3:c=63
 . subst F3
   have YW:=ho;rw[tM.o zo] at YW;obtain⟨QR,Qq⟩:=Xt.o zo;subst QR;obtain⟨_,f21,_⟩:=YW.1.cells;have ff1:=bN w2 pb 1 _ _ YW.1.blk;have Ht:=YW.1.set 1 (ι ((y.aQ:Int)+1)) {y with aQ:=y.aQ+1} zs rfl ⟨zg,YW.1.sz.2.2.1,YW.1.sz.2.2.2⟩;have HN:=zh (nT Ht 6 k 0 zo (λ_=>HK.o.2.2.2.1) zo zzCJ);have j4:=zh (YW.2.trans (PK.set (pb:=pb) (v:=Kr) 1 (w:=w2) (ι ((y.aQ:Int)+1))))
   have YJ:=mF y.aQ;have QM:zH (gY s y.aQ t=.ok (.rep t 0 true,y.aQ+1)):=zh (by assumption);unfold bH at HN;go_wp2_with (first|(have H0:=HN.o;go_at_call 74;refine H0.mono ?_;rintro e' w3 ⟨tB,rfl,ho⟩));go_ret;have hk:=HK.o;refine⟨_,_,tB,rfl,ho.1,hk.1.trans (j4.o.trans ho.2),hk.2.2.1.trans (jK _ _),zs,zg,?_⟩;refine zzDA ?_;rw[QM.o]
   exact⟨HK.o.2.2.2.2.2.1,HK.o.2.2.2.2.2.2,rfl,(λN hN h=>mk_opt hN h) y.ns ey.o u4,by have:=YX.o;grind⟩
 have:(c==42)=false:=by simp[mi]
 have:(c==43)=false:=by simp[mj]
 have:(c==63)=false:=by simp[F3]
 by_cases du:c=123
 . subst du
   have YW:=ho;rw[tM.o zo] at YW;obtain⟨QR,Qq⟩:=Xt.o zo;have HT:=zh (zi6 B pb s y Kr w2 YW.1 C5 Qq k t u4 zzDK);have j4:=zh YW.2;have QM:zH (gY s y.aQ t=nX s y.aQ t):=zh (by assumption);unfold bH at HT;go_wp2_with (first|(have H0:=HT.o;go_at_call 125;refine H0.mono ?_;rintro e' w3 ho;obtain⟨k3,_,_,rfl,_⟩:=id ho));go_ret;have hk:=HK.o;show TrO B pb s x 0 4 19 (gY s y.aQ t) lv w _ _;rw[QM.o]
   exact TrO.from (hk.1.trans j4.o) hk.2.2.1 hk.2.2.2.2.1 hk.2.2.2.2.2.1 hk.2.2.2.2.2.2 ho zzDK zzDK
 have:(c==123)=false:=by simp[du]
 have HC:=Ψ mi mj F3 du;go_wp2;go_ret;have hk:=HK.o;have hc:=HC.o;show TrO B pb s x 0 4 19 (gY s y.aQ t) lv w _ _;rw[C8.o];by_cases hb:c<0/\0<n
 . rw[zP hb]
   have YW:=ho;rw[tL.o hb] at YW;exact⟨k,_,Kr,rfl,YW.1,hk.1.trans YW.2,hk.2.2.1,hk.2.2.2.1,hk.2.2.2.2.1,rfl,rfl,(by decide:(2:Nat)≠0),by have:=YX.o;grind⟩
 rw[zN hb,zN hc.1,zN hc.2.1,zN hc.2.2.1,zN hc.2.2.2]
 have YW:=ho;rw[tM.o hb] at YW;exact⟨k,y,Kr,rfl,YW.1,hk.1.trans YW.2,hk.2.2.1,hk.2.2.2.1,hk.2.2.2.2.1,hk.2.2.2.2.2.1,hk.2.2.2.2.2.2,rfl,u4,YX.o.1⟩
def RAltC (f:Nat):Prop:=∀ (B pb:Nat) (s:η) (x:Pr) (lv:Value) (w:ω) (deep:Nat),gD B pb s x lv w->x.e=0->I x.ns<=20*x.aQ+11->deep<=8->nI s f deep x.aQ≠ .error (0,0)->
 Γ 31 #[bH pb,ι deep] w (TrO B pb s x 1 6 0 (nI s f deep x.aQ) lv w)
def RCatC (f:Nat):Prop:=∀ (B pb:Nat) (s:η) (x:Pr) (lv:Value) (w:ω) (deep:Nat),gD B pb s x lv w->x.e=0->I x.ns<=20*x.aQ+11->deep<=8->kM s f deep x.aQ []≠ .error (0,0)->
 Γ 72 #[bH pb,ι deep] w (TrO B pb s x 1 6 0 (kM s f deep x.aQ []) lv w)
def RAtomC (f:Nat):Prop:=∀ (B pb:Nat) (s:η) (x:Pr) (lv:Value) (w:ω) (deep:Nat),gD B pb s x lv w->x.e=0->I x.ns<=20*x.aQ+12->0<I x.ns->deep<=8->0<=(bT s x.aQ).1->(bT s x.aQ).1≠41->(bT s x.aQ).1≠124->kT s f deep x.aQ≠ .error (0,0)->
 Γ 124 #[bH pb,ι deep] w (TrO B pb s x 0 4 19 (kT s f deep x.aQ) lv w)
section
variable {B pb:Nat} {s:η} {x y:Pr} {lv:Value} {w w1 w2:ω} {e:Ending}
theorem zfL (h:gD B pb s y lv w1) (r:Value) (rl:θ) (hr:w1.r 196 2 r (I rl) (fW rl)) (hg:∀ g,β r=some g->B<=g/\g≠pb/\β lv≠some g) (hl:I y.ns<=1000000):
 Γ 74 #[bH pb,.agg #[ι 1,r,ι 0,ι 0,ι 0]] w1 (zic B pb s y (nS y.ns 1 r rl 0 0) lv w1):=
 zhM B pb s y lv w1 h 1 0 0 r rl zo zo zo ⟨hr,hg⟩ hl
theorem TrO.place {r:Value} {rl c:θ} (hk:PK pb lv lv w w1) (hn:y.ns=x.ns) (hy:y.e=x.e/\y.wh=x.wh/\y.aQ=q) (ha:x.aQ+1<=q) (hc:nY rl c) (hr:∀ r∈rl,0<=r.1/\r.1<=1114111/\0<=r.2/\r.2<=1114111) (h:zic B pb s y (nS y.ns 1 r rl 0 0) lv w1 e w2):
 TrO B pb s x 0 4 19 (.ok (.cL c,q)) lv w e w2:=by
 obtain⟨JI,rfl,h1,h2⟩:=h;refine⟨_,_,JI,rfl,h1,hk.trans h2,zg,zs,zg,hy.1,hy.2.1,hy.2.2,?_,?_⟩
 all_goals grind [mk_place]
theorem TrO.placeBad {r:Value} {rl:θ} (hk:PK pb lv lv w w1) (hn:y.ns=x.ns) (hy:y.e=er.1/\y.wh=er.2) (h0:er.1≠0) (ha:x.aQ<=y.aQ) (h:zic B pb s y (nS y.ns 1 r rl 0 0) lv w1 e w2):
 TrO B pb s x 0 4 19 (.error er) lv w e w2:=by
 obtain⟨JI,rfl,h1,h2⟩:=h;refine⟨_,_,JI,rfl,h1,hk.trans h2,zg,zs,ha,hy.1,hy.2,h0,?_⟩
 grind
theorem TrO.fail (h:gD B pb s {x with aQ:=q,e:=er.1,wh:=er.2} lv w2) (hk:PK pb lv lv w w2) (XR:k<I x.ns) (ha:x.aQ<=q) (h0:er.1≠0):TrO B pb s x 0 4 19 (.error er) lv w (ρ (ι k)) w2:=
 ⟨k,_,lv,rfl,h,hk,List.prefix_refl _,XR,ha,rfl,rfl,h0,zg⟩
end
theorem zcN (s:η) (f deep p:Nat):kT s (f+1) deep p=
 match cQ s p with
 | .error e=>.error e
 | .ok c=>
  if c=40 then
   if deep=8 then .error (5,p) else
    match nI s f (deep+1) (p+1) with
    | .error e=>.error e
    | .ok (t,q)=>
     match cQ s q with
     | .error e=>.error e
     | .ok d=>if d=41 then .ok (t,q+1) else .error (2,q)
  else if c=91 then
   match dN s (p+1) p with
   | .error e=>.error e
   | .ok (l,q)=>.ok (.cL l,q)
  else if c=46 then .ok (.cL [(0,9),(11,1114111)],p+1)
  else if c=93\/c=123\/c=125\/c=42\/c=43\/c=63 then .error (2,p)
  else
   match cD s p with
   | .error e=>.error e
   | .ok (x,q)=>.ok (.cL [(x,x)],q):=by rw[kT];rfl
theorem rng_new (w:ω) (l:θ) (hl:I l<=100):(κ w (Ω (fW l).toArray 196)).r 196 2 (σ w.t (I l) (I l)) (I l) (fW l):=by
 have e:I (fW l)=I l*2:=by
  unfold fW
  induction l with
  | nil=>rfl
  | cons a l ih=>grind
 refine⟨by rw[e],.inr ⟨w.t,I l,_,rfl,zo,bA _ _ _ rfl,bR,by unfold maxLen;omega,?_,?_⟩⟩
 all_goals grind
theorem rng_form {w:ω} {v:Value} (h:w.r 196 2 v (I l) (fW l)):∃ ao cap,v=τ ao (I l) cap:=by
 grind [aY]
theorem uH (h:cQ s p=.error er):er.1≠0:=by
 grind [gA]
theorem edge_ne (h:oX s p=.error er):er.1≠0:=by
 unfold oX at h;cases hp:cQ s p with
 | error e=>grind [uH]
 | ok c=>
  rw[hp] at h;dsimp only at h;split at h
  . grind
  rename_i hc
  have Qq:p<=s.size:=by
   rcases zLg s.size p with h1|h1
   . grind [gA,uG]
   exact h1
  rw[sJ Qq h];omega
theorem item_ne (h:kV s p=.error er):er.1≠0:=by
 grind [kV,edge_ne,uH]
theorem loop_ne :∀ (f q:Nat) (l:θ),q<=s.size->s.size<f+q->eH s f q l=.error er->er.1≠0
 | 0,q,l,h1,h2,h=>by omega
 | f+1,q,l,h1,h2,h=>by
  rw[zbd] at h;split at h
  . grind [uH]
  split at h
  . cases h
  split at h
  . grind [item_ne]
  rename_i x q' hi
  have qo:=zbW hi h1;exact loop_ne f q' _ qo.2.2.2.2.2.2 zo h
theorem zhl (hp:p<=s.size) (h:dN s p k=.error er):er.1≠0:=by
 cases qx:cQ s p with
 | error e=>grind [dN,uH]
 | ok c=>
  rw[zan qx] at h;have hq:(if c=94 then p+1 else p)<=s.size:=by
   split
   . grind [gA,oJ]
   exact hp
  generalize (if c=94 then p+1 else p)=q at h hq;unfold xJ at h;split at h
  . rename_i e he
    cases h;exact loop_ne _ q _ hq zo he
  grind
theorem zhR (s:η) (y:Pr):(eI s y).aQ=y.aQ:=by
 grind [eI,fK]
theorem fail_peek (s:η) (y:Pr):fK (eI s y) 2 y.aQ=if y.e=0 then {y with e:=2,wh:=y.aQ} else y:=by
 grind [eI,fK]
section
variable {B pb:Nat} {s:η} {y:Pr} {lv:Value} {w1:ω}
theorem zfM (h:gD B pb s y lv w1) (l:θ) (hl:I l<=100) (hn:I y.ns<=1000000):
 Γ 74 #[bH pb,.agg #[ι 1,σ w1.t (I l) (I l),ι 0,ι 0,ι 0]] (κ w1 (Ω (fW l).toArray 196)) (zic B pb s y (nS y.ns 1 (σ w1.t (I l) (I l)) l 0 0) lv (κ w1 (Ω (fW l).toArray 196))):=
 zfL (h.below (Ξ w1 _)) _ l (rng_new w1 l hl) (λg hg=>by
  cases hg;have:=h.lt;have:=h.low.2.1;exact⟨zg,zg,λe=>by have:w1.heap.size<w1.heap.size:=h.rlt _ e;omega⟩) hn
theorem OkR.ns {x:Pr} {r:Except mP Nat} (h:OkR s x y r):y.ns=x.ns:=by
 cases r with
 | ok q=>rw[h.1]
 | error e=>obtain⟨q,_,_,h3⟩:=h;rw[h3]
theorem PK.alloc {v v':Value} {w:ω} (h:PK pb v v' w w1) (o:Obj):PK pb v v' w (κ w1 o):=h.trans (PK.of_below (Ξ w1 _))
end
theorem ratom_any (f:Nat) (ih:∀ g,g<f->RAltC g):RAtomC f:=by
 intro B pb s x lv w deep h he hl h0 hd kx PQ V5 Hq;cases f with
 | zero=>rw[kT] at Hq;exact absurd rfl Hq
 | succ f=>
 have hz:=h.sz;have HE:=zh he;have QA:=zh Hq;have IH:=zh (ih f (Nat.lt_succ_self f));have Wf:zH (pb<w.t/\(∀ g,β lv=some g->g<w.t)/\B<=pb/\0<B):=zh ⟨h.lt,h.rlt,h.low.2.1,h.low.1⟩;have YX:zH (I x.ns<=20*x.aQ+12/\0<I x.ns/\x.aQ<=60/\x.wh<=60):=zh ⟨hl,h0,zo,zo⟩;have qx:=iR B pb s x lv w h;have t8:¬ ((bT s x.aQ).1<0/\0<(bT s x.aQ).2):=zo
 rw[vV t8] at qx;have HR:zH (cQ s x.aQ=.ok (bT s x.aQ).1):=zh (by rw[gA,zN t8]);have Xt:=zh (oJ (s:=s) (p:=x.aQ));have qo:=nC s x.aQ hz.2.1;obtain⟨_,c01,_⟩:=h.cells;clear ih Hq t8 h he hl h0;have R4:=zh kx;generalize bT s x.aQ=cn at qx Xt qo HR kx PQ V5;obtain⟨c,n⟩:=cn;dsimp only at qx Xt qo HR kx PQ V5;have vq:zH (kT s (f+1) deep x.aQ=_):=zh (by rw[zcN,HR.o]);dsimp only at vq;have Qx:=zh qx;clear qx
 generalize kT s (f+1) deep x.aQ=R at vq QA ⊢;unfold bH at Qx ⊢;go_in;go_upto_region 3 with (go_at_call 73;refine Qx.o.mono ?_;rintro e' w1 ⟨rfl,ho⟩;have H1:=zh ho;clear ho)
 clear c01;obtain⟨_,c11,_⟩:=H1.o.1.cells;have:=bN w1 pb 1 _ _ H1.o.1.blk;have VV:zH (∀ e:Nat,e<=14->e≠0->Γ 32 #[π pb,ι e,ι x.aQ] w1 λe' w'=>e'=ρ (ϕ #[])/\gD B pb s {x with e:=e,wh:=x.aQ} lv w'/\PK pb lv lv w w'):=zh (by
  intro e h1 h2;refine (iQ B pb s x lv w1 H1.o.1 e x.aQ h1 YX.o.2.2.1).mono ?_;rintro e' w' ⟨rfl,g1,g2⟩;rw[show fK x e x.aQ={x with e:=e,wh:=x.aQ} by unfold fK;rw[zP HE.o]] at g1;exact⟨rfl,g1,H1.o.2.trans g2⟩)
 by_cases A7:c=40
 . subst A7
   rw[zP rfl] at vq;obtain⟨QR,Qq⟩:=Xt.o zo;subst QR;by_cases h8:deep=8
   . subst h8
     rw[zP rfl] at vq;have HF:=zh (VV.o 5 zo zo);go_wp2_with (first|(go_at_call 32;refine HF.o.mono ?_;rintro e' w2 ⟨rfl,ho⟩;have H2:=zh ho;clear ho));go_ret;rw[vq.o];exact TrO.fail (q:=x.aQ) (er:=(5,x.aQ)) H2.o.1 H2.o.2 YX.o.2.1 bR (by decide:(5:Nat)≠0)
   rw[zN h8] at vq
   have YJ:=mF x.aQ;have XD:zH (gD B pb s {x with aQ:=x.aQ+1} lv (ς w1 (pb.p 1) (ι ((x.aQ:Int)+1)))/\PK pb lv lv w (ς w1 (pb.p 1) (ι ((x.aQ:Int)+1)))):=zh ⟨H1.o.1.set 1 _ _ zs rfl ⟨zg,hz.2.2.1,hz.2.2.2⟩,H1.o.2.trans (PK.set 1 _)⟩;have:((deep:Int)==8)=false:=zx
   clear kx PQ V5 HR Xt VV R4;go_upto_region 9 with fail
   generalize w1.setCell (pb.p 1) (ι ((x.aQ:Int)+1))=w2 at XD ⊢;have HA:zH (Γ 31 #[bH pb,ι ((deep:Int)+1)] w2 (TrO B pb s {x with aQ:=x.aQ+1} 1 6 0 (nI s f (deep+1) (x.aQ+1)) lv w2)):=
    zh (IH.o B pb s {x with aQ:=x.aQ+1} lv w2 (deep+1) XD.o.1 HE.o (by have:=YX.o;grind) zo (λh=>QA.o (by rw[vq.o];grind)))
   have:=mF deep;clear QA;generalize nI s f (deep+1) (x.aQ+1)=A at HA vq;unfold bH at HA;clear hz h8 Qq qo hd;go_upto_region 10 with (go_at_call 31;refine HA.o.mono ?_;rintro e' w3 ⟨k,y,tB,rfl,g1,g2,g3,g4,g5,g6⟩;have H3:=Ψ g1 g2 g3 (zAi g4 g5);have HT:=zh g6;clear g1 g2 g3 g4 g5 g6)
   have Nj:=iR B pb s y tB w3 H3.o.1;have sr:=zh (gA s y.aQ);have TC:=zh (oJ (s:=s) (p:=y.aQ));have Vb:=nC s y.aQ H3.o.1.sz.2.1;have Eb:zH ((eI s y).aQ=y.aQ):=zh (zhR s y);have sq:zH (fK (eI s y) 2 y.aQ=if y.e=0 then {y with e:=2,wh:=y.aQ} else y):=zh (fail_peek s y);have B8:zH (¬ ((bT s y.aQ).1<0/\0<(bT s y.aQ).2)->eI s y=y):=zh vV;generalize eI s y=y1 at Nj Eb sq B8;generalize bT s y.aQ=cn2 at Nj sr TC Vb B8
   obtain⟨d,kk⟩:=cn2;dsimp only at Nj sr TC Vb B8;have j4:=zh Nj;clear Nj;unfold bH at j4;go_upto_region 11 with (go_at_call 73;refine j4.o.mono ?_;rintro e' w4 ⟨rfl,ho⟩;have H4:=zh ho;clear ho);obtain⟨_,c41,_⟩:=H4.o.1.cells;rw[Eb.o] at c41;have:=bN w4 pb 1 _ _ H4.o.1.blk;have hy60:y.aQ<=60:=by have:=H3.o.1.sz;omega
   by_cases De:d=41
   . subst De
     obtain⟨Yr,Yc⟩:=TC.o zo;subst Yr;have:=mF y.aQ;have HY1:=zh (B8.o zo);clear Vb sq B8;go_wp2;go_ret;have BA:=H4.o.1;rw[HY1.o] at BA;have NV:=BA.sz;have h5:=BA.set 1 (ι ((y.aQ:Int)+1)) {y with aQ:=y.aQ+1} zs rfl ⟨zg,NV.2.2.1,NV.2.2.2⟩;have k5:=((XD.o.2.trans H3.o.2.1).trans H4.o.2).trans (PK.set (pb:=pb) 1 (ι ((y.aQ:Int)+1)));have hx:=H3.o.2.2
     have ht:=HT.o;refine⟨k,_,tB,rfl,h5,k5,hx.1,hx.2.1,zg,?_⟩;rw[vq.o];cases A with
     | error er=>exact⟨ht.1,ht.2.1,ht.2.2.1,zg⟩
     | ok r=>
      obtain⟨T,q⟩:=r;obtain⟨t1,t2,t3,t4,t5⟩:=ht;have hq:=sr.o;rw[zN zo,t3] at hq;dsimp only;rw[hq];dsimp only;rw[zP (rfl:(41:Int)=41)];refine⟨t1,t2,zo,t4,?_⟩;omega
   have:(d==41)=false:=by simp[De]
   have:(d != 41)=true:=by simp[De]
   have D2:=iQ B pb s y1 tB w4 H4.o.1 2 y.aQ zo hy60;rw[sq.o] at D2;have HF:=zh D2;clear D2 sq B8 Vb;unfold bH at HF;clear De;obtain⟨y2,DZ⟩:∃ y2,y2=if y.e=0 then {y with e:=2,wh:=y.aQ} else y:=⟨_,rfl⟩
   rw[<-DZ] at HF;have mf:=zh DZ;clear DZ;go_wp2_with (first|(go_at_call 32;refine HF.o.mono ?_;rintro e' w2 ⟨rfl,ho⟩;have H2:=zh ho;clear ho));go_ret;have k5:=((XD.o.2.trans H3.o.2.1).trans H4.o.2).trans H2.o.2;have h5:=H2.o.1;rw[mf.o] at h5;have hx:=H3.o.2.2;have ht:=HT.o;rw[vq.o];cases A with
   | error er=>
    have he:¬ y.e=0:=by rw[ht.1];exact ht.2.2.1
    rw[zN he] at h5;exact⟨k,_,tB,rfl,h5,k5,hx.1,hx.2.1,zo,ht.1,ht.2.1,ht.2.2.1,zo⟩
   | ok r=>
    obtain⟨T,q⟩:=r;obtain⟨t1,t2,t3,t4,t5⟩:=ht;have he:y.e=0:=by rw[t1];exact HE.o
    rw[zP he] at h5;have hq:=sr.o;have hR:(match (Except.ok (T,q):Except mP (aL×Nat)) with
     | .error e=>.error e
     | .ok (t,q)=>
      match cQ s q with
      | .error e=>.error e
      | .ok d=>if d=41 then .ok (t,q+1) else .error (2,q):Except mP (aL×Nat))=.error (2,y.aQ):=by
     dsimp only;rw[<-t3,hq];by_cases hb:d<0/\0<kk
     . grind
     grind
    rw[hR];exact⟨k,{y with e:=2,wh:=y.aQ},tB,rfl,h5,k5,hx.1,hx.2.1,zg,rfl,rfl,(by decide:(2:Nat)≠0),zg⟩
 rw[zN A7] at vq;have:(c==40)=false:=by simp[A7]
 by_cases CM:c=91
 . subst CM
   rw[zP rfl] at vq;obtain⟨QR,Qq⟩:=Xt.o zo;subst QR;have YJ:=mF x.aQ;have XD:zH (gD B pb s {x with aQ:=x.aQ+1} lv (ς w1 (pb.p 1) (ι ((x.aQ:Int)+1)))/\PK pb lv lv w (ς w1 (pb.p 1) (ι ((x.aQ:Int)+1)))):=zh ⟨H1.o.1.set 1 _ _ zs rfl ⟨zg,hz.2.2.1,hz.2.2.2⟩,H1.o.2.trans (PK.set 1 _)⟩;clear kx PQ V5 HR Xt VV R4 A7;go_upto_region 18 with fail
   generalize w1.setCell (pb.p 1) (ι ((x.aQ:Int)+1))=w2 at XD ⊢;have HS:=zh (ziY B pb s _ lv w2 XD.o.1 HE.o x.aQ YX.o.2.2.1);unfold bH at HS;go_upto_region 19 with (go_at_call 142;refine HS.o.mono ?_;rintro e' w3 ⟨v,l',y,rfl,ho,Yx,Vq,Hq,ym⟩;obtain⟨vo,vc,rfl⟩:=rng_form Yx;have H3:=zh ho;have xn:=Θ Yx Vq;have LN:=zh Hq;have YY:=zh ym;clear ho Hq ym Yx Vq)
   have:w.heap.size<=w2.heap.size:=XD.o.2.size;have HN:=zh (zfL H3.o.1 (τ vo (I l') vc) l' xn.o.1 (λg hg=>by
    have h1:=xn.o.2 g hg;have h2:=Wf.o
    grind) (by rw[LN.o.ns];have:=YX.o;grind))
   unfold bH at HN;go_wp2_with (first|(go_at_call 74;refine HN.o.mono ?_;rintro e' w4 ho;obtain⟨tB,rfl,_⟩:=id ho;have H4:=zh ho;clear ho));go_ret;rw[vq.o];have hk:=XD.o.2.trans H3.o.2;have XS:=LN.o;cases Yd:dN s (x.aQ+1) x.aQ with
   | error er=>
    rw[Yd] at XS;obtain⟨q,g1,g2,rfl⟩:=XS;dsimp only;have Z8:er.1≠0:=zhl zo Yd;exact TrO.placeBad (er:=er) (y:={x with aQ:=q,e:=er.1,wh:=er.2}) hk rfl ⟨rfl,rfl⟩ Z8 zg H4.o
   | ok r=>
    obtain⟨lc,q⟩:=r;obtain⟨SA,jp⟩:=YY.o _ _ Yd;rw[Yd] at XS;obtain⟨rfl,g1,g2⟩:=XS;dsimp only;exact TrO.place (y:={x with aQ:=q}) (q:=q) hk rfl ⟨rfl,rfl,rfl⟩ g1 SA jp H4.o
 rw[zN CM] at vq;have:(c==91)=false:=by simp[CM]
 by_cases Ut:c=46
 . subst Ut
   rw[zP rfl] at vq;obtain⟨QR,Qq⟩:=Xt.o zo;subst QR;have YJ:=mF x.aQ;have XD:zH (gD B pb s {x with aQ:=x.aQ+1} lv (ς w1 (pb.p 1) (ι ((x.aQ:Int)+1)))/\PK pb lv lv w (ς w1 (pb.p 1) (ι ((x.aQ:Int)+1)))):=zh ⟨H1.o.1.set 1 _ _ zs rfl ⟨zg,hz.2.2.1,hz.2.2.2⟩,H1.o.2.trans (PK.set 1 _)⟩;clear kx PQ V5 HR Xt VV R4 A7 CM;go_upto_region 22 with fail
   generalize w1.setCell (pb.p 1) (ι ((x.aQ:Int)+1))=w2 at XD ⊢;have HN:=zh (zfM XD.o.1 [(0,9),(11,1114111)] zs (by have:=YX.o;grind));unfold bH at HN;go_wp2_with (first|(go_at_call 74;refine HN.o.mono ?_;rintro e' w3 ho;obtain⟨tB,rfl,_⟩:=id ho;have H3:=zh ho;clear ho));go_ret;rw[vq.o];exact TrO.place (y:={x with aQ:=x.aQ+1}) (q:=x.aQ+1) (XD.o.2.alloc _) rfl ⟨rfl,rfl,rfl⟩ bR (nY.refl _) (λr hr=>zg) H3.o
 rw[zN Ut] at vq;have:(c==46)=false:=by simp[Ut]
 have:(c==41)=false:=by simp[PQ]
 have:(c==124)=false:=by simp[V5]
 by_cases hs:c=93\/c=123\/c=125\/c=42\/c=43\/c=63
 . rw[zP hs] at vq
   have HF:=zh (VV.o 2 zo zo);clear kx PQ V5 HR Xt
   rcases hs with rfl|rfl|rfl|rfl|rfl|rfl
   all_goals
    go_wp2_with (first|(go_at_call 32;refine HF.o.mono ?_;rintro e' w2 ⟨rfl,ho⟩;have H2:=zh ho;clear ho));go_ret;rw[vq.o];exact TrO.fail (q:=x.aQ) (er:=(2,x.aQ)) H2.o.1 H2.o.2 YX.o.2.1 bR (by decide:(2:Nat)≠0)
 rw[zN hs] at vq;have:(c==93)=false:=zx
 have:(c==123)=false:=zx
 have:(c==125)=false:=zx
 have:(c==42)=false:=zx
 have:(c==43)=false:=zx
 have:(c==63)=false:=zx
 have HS:=zh (zav B pb s x lv w1 H1.o.1 HE.o);clear kx PQ V5 HR Xt VV hs A7 CM Ut;unfold bH at HS;go_upto_region 34 with (go_at_call 143;refine HS.o.mono ?_;rintro e' w2 ⟨v,y,rfl,ho,CZ,jm,Hq,Io⟩;have H2:=zh ho;have LN:=zh Hq;have WJ:=zh Io;clear ho Hq Io)
 have HN:=zh (zfM H2.o.1 [(v,v)] zs (by rw[LN.o.ns];have:=YX.o;omega));unfold bH at HN;go_wp2_with (first|(go_at_call 74;refine HN.o.mono ?_;rintro e' w3 ho;obtain⟨tB,rfl,_⟩:=id ho;have H3:=zh ho;clear ho));go_ret;rw[vq.o];have hk:=(H1.o.2.trans H2.o.2).alloc (Ω (fW [(v,v)]).toArray 196);have XS:=LN.o;cases Yd:cD s x.aQ with
 | error er=>
  rw[Yd] at XS;obtain⟨q,g1,g2,rfl⟩:=XS;dsimp only;have Z8:=sJ hz.2.1 Yd;subst Z8;exact TrO.placeBad (er:=(2,x.aQ)) (y:={x with aQ:=q,e:=2,wh:=x.aQ}) hk rfl ⟨rfl,rfl⟩ (by decide:(2:Nat)≠0) g1 H3.o
 | ok r=>
  obtain⟨v',q⟩:=r;have hv:=WJ.o _ _ Yd;subst hv;rw[Yd] at XS;obtain⟨rfl,g1,g2⟩:=XS;dsimp only;obtain⟨Hf,Jq⟩:=zcU hz.2.1 R4.o Yd;unfold cW at Jq;simp only[Bool.and_eq_true,Bool.or_eq_true,decide_eq_true_eq] at Jq;exact TrO.place (y:={x with aQ:=q}) (q:=q) hk rfl ⟨rfl,rfl,rfl⟩ Hf (nY.refl _) (λr hr=>zg) H3.o
abbrev zdi (a b:Int×Int):Prop:=a.2<b.1
theorem pf_same {r:Int×Int}:∀ {l:θ},(∀ y∈l,y.2<r.1\/y.1>r.2)->cutP l r=l
 | [],_=>rfl
 | x::l,h=>by
  have ih:=pf_same (l:=l) (λy hy=>h y (by simp[hy]));unfold cutP at ih ⊢;rw[List.flatMap_cons,zP (h x zs),ih];rfl
theorem pf_cut (r:Int×Int) (hr:r.1<=r.2):∀ (l:θ),l.Pairwise zdi->(∀ x∈l,x.1<=x.2)->
 (cutP l r).Pairwise zdi/\(∀ y∈cutP l r,y.1<=y.2/\∃ x∈l,x.1<=y.1/\y.2<=x.2)/\I (cutP l r)<=I l+1
 | [],_,_=>⟨List.Pairwise.nil,λy hy=>by simp[cutP] at hy,by simp[cutP]⟩
 | x::l,hp,hx=>by
  rw[List.pairwise_cons] at hp;have:=hx x zs;obtain⟨i1,i2,i3⟩:=pf_cut r hr l hp.2 (λy hy=>hx y (by simp[hy]));obtain⟨pc,ij⟩:=zE ((if x.2<r.1\/x.1>r.2 then[x] else (if x.1<r.1 then[(x.1,r.1-1)] else[])++(if x.2>r.2 then[(r.2+1,x.2)] else[])));have e:cutP (x::l) r=pc++cutP l r:=by
   unfold cutP;rw[List.flatMap_cons,ij]
  have XP:∀ y∈pc,y.1<=y.2/\x.1<=y.1/\y.2<=x.2:=λy hy=>by
   rw[ij] at hy;split at hy
   . rw[zMs] at hy;subst hy;omega
   rcases List.mem_append.1 hy with hy|hy
   . exact zzDl
   exact zzDl
  have Xx:pc.Pairwise zdi:=by
   rw[ij];split
   . simp
   split<;>split<;>simp[zdi]<;>omega
  have Ho:I pc<=1\/(I pc=2/\cutP l r=l):=by
   by_cases h2:x.1<r.1/\x.2>r.2
   . refine .inr ⟨?_,pf_same λy hy=>.inr ?_⟩
     . rw[ij,zN zo,zP h2.1,zP h2.2];rfl
     have h3:x.2<y.1:=hp.1 y hy
     omega
   refine .inl ?_
   rw[ij];split
   . simp
   split<;>split<;>simp<;>omega
  rw[e];refine⟨?_,λy hy=> ?_,?_⟩
  . rw[List.pairwise_append]
    refine⟨Xx,i1,λa ha b hb=> ?_⟩;have h1:=XP a ha;obtain⟨_,z,hz,h2,h3⟩:=i2 b hb;have:x.2<z.1:=hp.1 z hz;show a.2<b.1;omega
  . rcases List.mem_append.1 hy with hy|hy
    . exact⟨(XP y hy).1,x,zs,(XP y hy).2⟩
    obtain⟨h1,z,hz,h2⟩:=i2 y hy
    exact⟨h1,z,by simp[hz],h2⟩
  rw[zLn,List.length_cons]
  rcases Ho with h|⟨h,h2⟩
  . omega
  rw[h,h2];omega
theorem pf_fold:∀ (l a:θ),a.Pairwise zdi->(∀ x∈a,x.1<=x.2)->iF a->(∀ r∈l,r.1<=r.2)->iF (l.foldl cutP a)/\I (l.foldl cutP a)<=I a+I l
 | [],a,_,_,h,_=>⟨h,bR⟩
 | r::l,a,h1,h2,h3,h4=>by
  obtain⟨c1,c2,c3⟩:=pf_cut r (h4 r zs) a h1 h2;obtain⟨d1,d2⟩:=pf_fold l (cutP a r) c1 (λy hy=>(c2 y hy).1) (λy hy=>by
   obtain⟨e1,x,hx,e2,e3⟩:=c2 y hy;have:=h3 x hx;omega) (λq hq=>h4 q (by simp[hq]))
  refine⟨d1,?_⟩;simp only[List.length_cons];show I (l.foldl cutP (cutP a r))<=_;omega
theorem pf_rest (h:∀ r∈l,r.1<=r.2):iF (jR l)/\I (jR l)<=2+I l:=
 pf_fold l _ (by simp[zdi]) (λx hx=>by simp at hx;rcases hx with rfl|rfl<;>decide) (λx hx=>by simp at hx;rcases hx with rfl|rfl<;>decide) h
theorem pf_loop :∀ (f p:Nat) (l l2:θ) (q:Nat),eH s f p l=.ok (l2,q)->p<=s.size->(∀ r∈l,0<=r.1/\r.1<=r.2/\r.2<=1114111)->(∀ r∈l2,0<=r.1/\r.1<=r.2/\r.2<=1114111)/\p<=q/\q<s.size/\I l2+p<=I l+q
 | 0,p,l,l2,q,h,_,_=>by rw[eH] at h;cases h
 | f+1,p,l,l2,q,h,hp,hl=>by
  have item:∀ x q1,kV s p=.ok (x,q1)->eH s f q1 (l++[x])=.ok (l2,q)->(∀ r∈l2,0<=r.1/\r.1<=r.2/\r.2<=1114111)/\p<=q/\q<s.size/\I l2+p<=I l+q:=λx q1 hi hc=>by
   have h1:=zbW hi hp;obtain⟨a1,a2,a3,a4⟩:=pf_loop f q1 _ l2 q hc h1.2.2.2.2.2.2 (λr hr=>by
    rcases List.mem_append.1 hr with hr|hr
    . exact hl r hr
    rw[zMs] at hr;subst hr;omega)
   simp only[zLn,List.length_singleton] at a4;exact⟨a1,zo,a3,zo⟩
  rw[zbd] at h;split at h
  . cases h
  rename_i c hc
  split at h
  . rename_i h93
    cases h;refine⟨hl,bR,?_,bR⟩
    rcases zLg p s.size with h1|h1
    . exact h1
    rw[gA,uG zo] at hc
    simp at hc;omega
  split at h
  . cases h
  rename_i x q1 hi
  exact item x q1 hi h
theorem pf_class (h:dN s p k=.ok (l,q)) (hp:p<=s.size) (hs:s.size<=60):iF l/\I l<=62/\p<q/\q<=s.size:=by
 unfold dN at h;split at h
 . cases h
 rename_i c hc
 split at h
 . cases h
 rename_i l1 q1 hl
 have Qd:(if c=94 then p+1 else p)<=s.size:=by
  split
  . rename_i Ek
    subst Ek
    rcases zLg p s.size with h1|h1
    . omega
    rw[gA,uG zo] at hc
    simp at hc
  exact hp
 obtain⟨a1,a2,a3,a4⟩:=pf_loop _ _ _ _ _ hl Qd (λr hr=>by cases hr);have VQ:p<=q1:=by
  split at a2<;>omega
 simp only[List.length_nil] at a4;have GY:I l1<=60:=zo
 split at h
 . split at h
   . cases h
   cases h
   have:=pf_rest (l:=l1) (λr hr=>(a1 r hr).2.1);exact⟨this.1,zo,zo,zo⟩
 cases h
 exact⟨λr hr=>by have:=a1 r hr;omega,zo,zo,zo⟩
structure rZ (B pb:Nat) (s:η) (x:Pr) (lv:Value) (w:ω) (k:Nat) (y:Pr) (yx:Value) (wr:ω):Prop where
 pr:gD B pb s y yx wr
 pk:PK pb lv yx w wr
 pre:x.ns<+:y.ns
 lt:k<I y.ns
 le:x.aQ<=y.aQ
def ErrS (R:Except mP (aL×Nat)) (x y:Pr):Prop:=y.e≠0/\R=.error (y.e,y.wh)/\I y.ns+20*x.aQ<=I x.ns+20*y.aQ+6
def RowS (s:η) (R:Except mP (aL×Nat)) (x y:Pr) (k deep g:Nat):Prop:=
 y.e=x.e/\y.wh=x.wh/\I y.ns+20*x.aQ<=I x.ns+20*y.aQ+1/\∃ l,oA y.ns k l/\R=kM s g deep y.aQ l
def CatS (s:η) (R:Except mP (aL×Nat)) (x y:Pr) (k:Nat) (c:Int) (deep g:Nat):Prop:=
 RowS s R x y k deep g/\c=(bT s y.aQ).1/\cQ s y.aQ=.ok c
theorem zhS (s:η) (y:Pr):(eI s y).ns=y.ns:=by
 grind [eI,fK]
section
variable {B pb:Nat} {s:η} {x y:Pr} {lv yx:Value} {w wr w':ω} {k deep g:Nat} {R:Except mP (aL×Nat)} {c:Int}
theorem rZ.peek (h:rZ B pb s x lv w k y yx wr) (h2:PrO B pb s (eI s y) yx wr w'):rZ B pb s x lv w k (eI s y) yx w':=
 ⟨h2.1,h.pk.trans h2.2,by rw[zhS];exact h.pre,by rw[zhS];exact h.lt,by rw[zhR];exact h.le⟩
theorem zhi (he:x.e=0) (hR:R≠ .error (0,0)) (h:ErrS R x y\/RowS s R x y k deep g):ErrS R x (eI s y)\/CatS s R x (eI s y) k (bT s y.aQ).1 deep g:=by
 rcases h with h|h
 . rw[zcG h.1];grind
 obtain⟨h1,h2,h3,l,h4,h5⟩:=h
 by_cases hb:(bT s y.aQ).1<0/\0<(bT s y.aQ).2
 . rw[zaZ (h1.trans he) hb]
   refine .inl ⟨(by decide:(2:Nat)≠0),?_,zg⟩;cases g with
   | zero=>grind [kM]
   | succ g=>grind [vW,gA]
 rw[vV hb]
 exact .inr ⟨⟨h1,h2,h3,l,h4,h5⟩,rfl,by rw[gA,zN hb]⟩
theorem zd1 (he:x.e=0) (hR:R≠ .error (0,0)) (hl:rZ B pb s x lv w k y yx wr) (h:ErrS R x y\/(CatS s R x y k c deep g/\(c= -1\/c=124\/c=41))):TrO B pb s x 1 6 0 R lv w (ρ (ι k)) wr:=by
 rcases h with⟨h1,h2,h3⟩|⟨⟨⟨h1,h2,h3,l,h4,h5⟩,h6,h7⟩,h8⟩
 . exact zzDH
 cases g with
 | zero=>grind [kM]
 | succ g=>
  have e:R=.ok (.row l,y.aQ):=by
   rw[h5,vW,h7];dsimp only;rw[zP h8]
  rw[e];exact⟨k,y,yx,rfl,hl.pr,hl.pk,hl.pre,hl.lt,hl.le,h1,h2,rfl,.row _ _ h4,zo⟩
theorem cat_go (hR:R≠ .error (0,0)) (h:CatS s R x y k c deep g) (hc:¬ (c= -1\/c=124\/c=41)):∃ g2 l,g=g2+1/\oA y.ns k l/\kT s g2 deep y.aQ≠ .error (0,0)/\R=match repP s (kT s g2 deep y.aQ) with| .error e=>.error e| .ok (u,q)=>kM s g2 deep q (l++[u]):=by
 obtain⟨⟨h1,h2,h3,l,h4,h5⟩,h6,h7⟩:=h;cases g with
 | zero=>grind [kM]
 | succ g=>
  grind [vW,repP]
theorem cat_next {l:List aL} {RP:Except mP (aL×Nat)} (Hb:oA y.ns k l) (hp:y.ns<+:y2.ns) (hx:y.e=x.e/\y.wh=x.wh/\I y.ns+20*x.aQ<=I x.ns+20*y.aQ+1)
 (hR:R=match RP with| .error e=>.error e| .ok (u,q)=>kM s g deep q (l++[u]))
 (h:match (generalizing:=false) RP with
  | .ok (T,q)=>y2.e=y.e/\y2.wh=y.wh/\y2.aQ=q/\cX y2.ns k2 T/\I y2.ns+20*y.aQ+19<=I y.ns+20*y2.aQ+0
  | .error er=>y2.e=er.1/\y2.wh=er.2/\er.1≠0/\I y2.ns+20*y.aQ<=I y.ns+20*y2.aQ+4):
 ErrS R x {y2 with ns:=y2.ns++[nS y2.ns 2 ν [] k k2]}\/RowS s R x {y2 with ns:=y2.ns++[nS y2.ns 2 ν [] k k2]} y2.ns.length deep g:=by
 cases RP with
 | error er=>
  exact zzDr
 | ok r=>
  obtain⟨T,q⟩:=r;obtain⟨h1,h2,h3,h4,h5⟩:=h;refine .inr ⟨h1.trans hx.1,h2.trans hx.2.1,?_,l++[T],zcw (Hb.mono hp) h4,?_⟩
  all_goals grind
end
theorem rcat_any (f:Nat) (ih:∀ g,g<f->RAtomC g):RCatC f:=by
 intro B pb s x lv w deep h he hl hd Hq;have IH:=zh ih;have YX:zH (I x.ns<=20*x.aQ+11/\deep<=8/\s.size<=60):=zh ⟨hl,hd,h.sz.1⟩;obtain⟨R,hR⟩:=zE (kM s f deep x.aQ []);rw[<-hR] at Hq ⊢;have HR:=zh hR;have HN:=zh (nT h 0 0 0 zo zo zo (by have:=h.sz;omega));clear ih hl hd hR h;unfold bH at HN ⊢;go_in;go_upto_region 2 with (have H0:=HN.o;go_at_call 74;refine H0.mono ?_;rintro e' w1 ⟨Kr,rfl,ho⟩)
 obtain⟨y,hy⟩:∃ y:Pr,y={x with ns:=x.ns++[nS x.ns 0 ν [] 0 0]}:=⟨_,rfl⟩;have HL:zH (rZ B pb s x lv w (I x.ns) y Kr w1):=zh (by rw[hy];exact⟨ho.1,ho.2,jK _ _,zs,bR⟩);have HS:zH (ErrS R x y\/RowS s R x y (I x.ns) deep f):=zh (.inr (by rw[hy];exact⟨rfl,rfl,zg,[],mk_nil _,HR.o⟩));clear hy;have Qx:=zh (iR B pb s y Kr w1 HL.o.pr);have QS:=zh (zhi he Hq HS.o)
 have XY:zH (∀ w',PrO B pb s (eI s y) Kr w1 w'->rZ B pb s x lv w (I x.ns) (eI s y) Kr w'):=zh (λw' h=>HL.o.peek h);generalize bT s y.aQ=cn at Qx QS;obtain⟨c,n⟩:=cn;generalize eI s y=y1 at Qx QS XY;dsimp only at Qx QS;unfold bH at Qx;go_wp2_with (first|(have H0:=Qx.o;go_at_call 73;refine H0.mono ?_;rintro e' w2 ⟨rfl,ho⟩;have H2:=zh (XY.o _ ho)))
 go_loopg [5,6] f (λgh s5 s6 wr=>∃ (G k:Nat) (y:Pr) (yx:Value) (c:Int),G=gh/\G<=f/\s5=ι k/\s6=ι c/\rZ B pb s x lv w k y yx wr/\(ErrS R x y\/CatS s R x y k c deep G))
 case atStart=>exact⟨f,_,y1,Kr,c,rfl,bR,rfl,rfl,H2.o,QS.o⟩
 case round=>
  obtain⟨G,k,y,yx,c,hG,mx,rfl,rfl,ky,Hh⟩:=hrel;have HG:=Θ hG mx;have XY:=zh ky;obtain⟨_,_,c2,_⟩:=ky.pr.cells
  rcases Hh with Hh|Hh
  . have:((y.e:Int)==0)=false:=by have:=Hh.1;simp;omega
    go_wp2;go_ret;exact zd1 (c:=0) (deep:=deep) (g:=0) he Hq XY.o (.inl Hh)
  have C5:y.e=0:=by rw[Hh.1.1];exact he
  rw[C5] at c2;have Yg: -1<=c:=by rw[Hh.2.1];exact (nC s y.aQ XY.o.pr.sz.2.1).2.1
  by_cases Vo:c<0
  . have zc:¬ (0<=c):=zo
    have HX:=zh (show c= -1\/c=124\/c=41 by omega);go_wp2;go_ret;exact zd1 he Hq XY.o (.inr ⟨Hh,HX.o⟩)
  by_cases VI:c=124
  . subst VI
    go_wp2;go_ret;exact zd1 he Hq XY.o (.inr ⟨Hh,zo⟩)
  by_cases F2:c=41
  . subst F2
    go_wp2;go_ret;exact zd1 he Hq XY.o (.inr ⟨Hh,zo⟩)
  have zc:0<=c:=zo
  have:(c != 124)=true:=by simp[VI]
  have:(c != 41)=true:=by simp[F2]
  obtain⟨g,l,hg,Hb,cd,Mj⟩:=cat_go Hq Hh zo;have hx:y.e=x.e/\y.wh=x.wh/\I y.ns+20*x.aQ<=I x.ns+20*y.aQ+1:=⟨Hh.1.1,Hh.1.2.1,Hh.1.2.2.1⟩;have hb:=YX.o;have XI:=Hh.2.1;have HK:=zh (rrep_any B pb s y yx wr deep (kT s g deep y.aQ) C5 ⟨XY.o.pr.sz.1,XY.o.pr.sz.2.1⟩ zo
   (IH.o g (by have:=HG.o;omega) B pb s y yx wr deep XY.o.pr C5 zo (by have:=XY.o.lt;omega) hb.2.1 zo zo zo cd))
  have HX:=Λ Hb hx Mj;clear Hb hx Mj cd XI hb VI F2 Vo Yg;generalize repP s (kT s g deep y.aQ)=RP at HK HX;unfold bH at HK;go_upto_region 5 with (have H0:=HK.o;go_at_call 111;refine H0.mono ?_;rintro e' w3 ⟨k2,y2,JI,rfl,g1,g2,g3,g4,g5,g6⟩)
  have x8:I y2.ns<=2000:=by
   have:=g6;have:=HX.o.2.1;have:=YX.o;have:=g1.sz;cases RP with
   | error er=>omega
   | ok r=>omega
  have Qo:=zh (cat_next HX.o.1 g3 HX.o.2.1 HX.o.2.2 g6);have HN:=zh (nT g1 2 k k2 zo (λ_=>zLd XY.o.lt g3.length_le) (λ_ _=>g4) zo);have Qw:zH (PK pb lv JI w w3/\x.ns<+:y2.ns/\x.aQ<=y2.aQ):=zh ⟨XY.o.pk.trans g2,XY.o.pre.trans g3,zT XY.o.le g5⟩;clear x8 HX;unfold bH at HN;go_upto_region 6 with (have H0:=HN.o;go_at_call 74;refine H0.mono ?_;rintro e' w4 ⟨lv4,rfl,ho⟩)
  have um:zH (rZ B pb s x lv w (I y2.ns) {y2 with ns:=y2.ns++[nS y2.ns 2 ν [] k k2]} lv4 w4):=zh ⟨ho.1,Qw.o.1.trans ho.2,Qw.o.2.1.trans (jK _ _),zs,Qw.o.2.2⟩;generalize (I y2.ns)=k4 at um Qo ⊢;generalize ({y2 with ns:=y2.ns++[nS y2.ns 2 ν [] k k2]}:Pr)=y4 at um Qo ho;clear Qw;have Qx:=zh (iR B pb s y4 lv4 w4 um.o.pr);have QS:=zh (zhi he Hq Qo.o)
  have uo:zH (∀ w',PrO B pb s (eI s y4) lv4 w4 w'->rZ B pb s x lv w k4 (eI s y4) lv4 w'):=zh (λw' h=>um.o.peek h);generalize bT s y4.aQ=cn at Qx QS;obtain⟨c,n⟩:=cn;generalize eI s y4=y5 at Qx QS uo;dsimp only at Qx QS;unfold bH at Qx;go_wp2_with (first|(have H0:=Qx.o;go_at_call 73;refine H0.mono ?_;rintro e' w5 ⟨rfl,ho⟩;have H5:=zh (uo.o _ ho)));go_roundg g
  case rel=>exact⟨g,k4,y5,lv4,c,rfl,by have:=hg;have:=HG.o;omega,rfl,rfl,H5.o,QS.o⟩
  case measure=>have:=hg;have:=HG.o;omega
theorem qC (s:η) (f deep p:Nat) (t:aL):fT s (f+1) deep p t=
 match cQ s p with
 | .error e=>.error e
 | .ok c=>
  if c=124 then
   match kM s f deep (p+1) [] with
   | .error e=>.error e
   | .ok (u,q)=>fT s f deep q (.either t u)
  else .ok (t,p):=by rw[fT];rfl
theorem zdH (s:η) (f deep p:Nat):nI s (f+1) deep p=
 match kM s f deep p [] with
 | .error e=>.error e
 | .ok (t,q)=>fT s f deep q t:=by rw[nI];rfl
def EitS (s:η) (R:Except mP (aL×Nat)) (x y:Pr) (k deep g:Nat):Prop:=
 y.e=x.e/\y.wh=x.wh/\I y.ns+20*x.aQ<=I x.ns+20*y.aQ+1/\∃ t,cX y.ns k t/\R=fT s g deep y.aQ t
def AltS (s:η) (R:Except mP (aL×Nat)) (x y:Pr) (k:Nat) (c:Int) (n deep g:Nat):Prop:=
 EitS s R x y k deep g/\(c,n)=bT s y.aQ/\cQ s y.aQ=.ok c
section
variable {B pb:Nat} {s:η} {x y:Pr} {lv yx:Value} {w wr w':ω} {k deep g:Nat} {R:Except mP (aL×Nat)} {c:Int} {n:Nat}
theorem zhf (he:x.e=0) (hR:R≠ .error (0,0)) (h:ErrS R x y\/EitS s R x y k deep g):ErrS R x (eI s y)\/AltS s R x (eI s y) k (bT s y.aQ).1 (bT s y.aQ).2 deep g:=by
 rcases h with h|h
 . rw[zcG h.1];grind
 obtain⟨h1,h2,h3,t,h4,h5⟩:=h
 by_cases hb:(bT s y.aQ).1<0/\0<(bT s y.aQ).2
 . rw[zaZ (h1.trans he) hb]
   refine .inl ⟨(by decide:(2:Nat)≠0),?_,zg⟩;cases g with
   | zero=>grind [fT]
   | succ g=>grind [qC,gA]
 rw[vV hb]
 exact .inr ⟨⟨h1,h2,h3,t,h4,h5⟩,rfl,by rw[gA,zN hb]⟩
theorem alt_out (he:x.e=0) (hR:R≠ .error (0,0)) (hl:rZ B pb s x lv w k y yx wr) (h:ErrS R x y\/(AltS s R x y k c n deep g/\c≠124)):TrO B pb s x 1 6 0 R lv w (ρ (ι k)) wr:=by
 rcases h with⟨h1,h2,h3⟩|⟨⟨⟨h1,h2,h3,t,h4,h5⟩,h6,h7⟩,h8⟩
 . exact zzDH
 cases g with
 | zero=>grind [fT]
 | succ g=>
  have e:R=.ok (t,y.aQ):=by
   rw[h5,qC,h7];dsimp only;rw[zN h8]
  rw[e];exact⟨k,y,yx,rfl,hl.pr,hl.pk,hl.pre,hl.lt,hl.le,h1,h2,rfl,h4,zo⟩
theorem alt_go (hR:R≠ .error (0,0)) (h:AltS s R x y k 124 n deep g):∃ g2 t,g=g2+1/\n=1/\y.aQ<s.size/\cX y.ns k t/\kM s g2 deep (y.aQ+1) []≠ .error (0,0)/\R=match kM s g2 deep (y.aQ+1) [] with| .error e=>.error e| .ok (u,q)=>fT s g2 deep q (.either t u):=by
 obtain⟨⟨h1,h2,h3,t,h4,h5⟩,h6,h7⟩:=h;cases g with
 | zero=>grind [fT]
 | succ g=>
  grind [qC,oJ]
theorem alt_first {RP:Except mP (aL×Nat)} (hR:R=match RP with| .error e=>.error e| .ok (u,q)=>fT s g deep q u)
 (h:match (generalizing:=false) RP with
  | .ok (T,q)=>y2.e=x.e/\y2.wh=x.wh/\y2.aQ=q/\cX y2.ns k2 T/\I y2.ns+20*x.aQ+0<=I x.ns+20*y2.aQ+1
  | .error er=>y2.e=er.1/\y2.wh=er.2/\er.1≠0/\I y2.ns+20*x.aQ<=I x.ns+20*y2.aQ+6):
 ErrS R x y2\/EitS s R x y2 k2 deep g:=by
 cases RP with
 | error er=>
  obtain⟨h1,h2,h3,h4⟩:=h;exact .inl ⟨zo,zg,h4⟩
 | ok r=>
  obtain⟨T,q⟩:=r;obtain⟨h1,h2,h3,h4,h5⟩:=h;exact .inr ⟨h1,h2,zo,T,h4,zg⟩
theorem alt_next {RP:Except mP (aL×Nat)} (Hb:cX y.ns k t) (hp:y.ns<+:y2.ns) (hx:y.e=x.e/\y.wh=x.wh/\I y.ns+20*x.aQ<=I x.ns+20*y.aQ+1)
 (hR:R=match RP with| .error e=>.error e| .ok (u,q)=>fT s g deep q (.either t u))
 (h:match (generalizing:=false) RP with
  | .ok (T,q)=>y2.e=y.e/\y2.wh=y.wh/\y2.aQ=q/\cX y2.ns k2 T/\I y2.ns+20*(y.aQ+1)+0<=I y.ns+20*y2.aQ+1
  | .error er=>y2.e=er.1/\y2.wh=er.2/\er.1≠0/\I y2.ns+20*(y.aQ+1)<=I y.ns+20*y2.aQ+6):
 ErrS R x {y2 with ns:=y2.ns++[nS y2.ns 3 ν [] k k2]}\/EitS s R x {y2 with ns:=y2.ns++[nS y2.ns 3 ν [] k k2]} y2.ns.length deep g:=by
 cases RP with
 | error er=>
  exact zzDr
 | ok r=>
  obtain⟨T,q⟩:=r;obtain⟨h1,h2,h3,h4,h5⟩:=h;refine .inr ⟨h1.trans hx.1,h2.trans hx.2.1,?_,.either t T,mk_either (Hb.mono hp) h4,?_⟩
  all_goals grind
end
theorem ralt_any (f:Nat) (ih:∀ g,g<f->RCatC g):RAltC f:=by
 intro B pb s x lv w deep h he hl hd Hq;cases f with
 | zero=>rw[nI] at Hq;exact absurd rfl Hq
 | succ f=>
 have IH:=zh ih;have YX:zH (I x.ns<=20*x.aQ+11/\deep<=8/\s.size<=60/\x.aQ<=s.size):=zh ⟨hl,hd,h.sz.1,h.sz.2.1⟩;obtain⟨R,hR⟩:=zE (nI s (f+1) deep x.aQ);rw[<-hR] at Hq ⊢;rw[zdH] at hR;have HK:=zh (ih f (Nat.lt_succ_self f) B pb s x lv w deep h he hl hd (λha=>Hq zg));clear ih hl hd h;generalize kM s f deep x.aQ []=RP at HK hR;unfold bH at HK ⊢;go_in
 go_upto_region 2 with (have H0:=HK.o;go_at_call 72;refine H0.mono ?_;rintro e' w1 ⟨k,y,Kr,rfl,g1,g2,g3,g4,g5,g6⟩;have HL:=zh (rZ.mk g1 g2 g3 g4 g5);have HS:=zh (alt_first hR g6))
 have Qx:=zh (iR B pb s y Kr w1 HL.o.pr);have QS:=zh (zhf he Hq HS.o);have XY:zH (∀ w',PrO B pb s (eI s y) Kr w1 w'->rZ B pb s x lv w k (eI s y) Kr w'):=zh (λw' h=>HL.o.peek h);generalize bT s y.aQ=cn at Qx QS;obtain⟨c,n⟩:=cn;generalize eI s y=y1 at Qx QS XY;dsimp only at Qx QS;unfold bH at Qx;go_wp2_with (first|(have H0:=Qx.o;go_at_call 73;refine H0.mono ?_;rintro e' w2 ⟨rfl,ho⟩;have H2:=zh (XY.o _ ho)))
 go_loopg [5,6,7] f (λgh s5 s6 s7 wr=>∃ (G k:Nat) (y:Pr) (yx:Value) (c:Int) (n:Nat),G=gh/\G<=f/\s5=ι k/\s6=ι c/\s7=ι n/\rZ B pb s x lv w k y yx wr/\(ErrS R x y\/AltS s R x y k c n deep G))
 case atStart=>exact⟨f,k,y1,Kr,c,n,rfl,bR,rfl,rfl,rfl,H2.o,QS.o⟩
 case round=>
  obtain⟨G,k,y,yx,c,n,hG,mx,rfl,rfl,rfl,ky,Hh⟩:=hrel;have HG:=Θ hG mx;have XY:=zh ky;obtain⟨_,c1,c2,_⟩:=ky.pr.cells;have:=bN wr pb 1 _ _ ky.pr.blk
  rcases Hh with Hh|Hh
  . have:((y.e:Int)==0)=false:=by have:=Hh.1;simp;omega
    go_wp2;go_ret;exact alt_out (c:=0) (n:=0) (deep:=deep) (g:=0) he Hq XY.o (.inl Hh)
  have C5:y.e=0:=by rw[Hh.1.1];exact he
  rw[C5] at c2;by_cases VI:c=124
  . subst VI
    obtain⟨g,t,hg,hn,Qq,EQ,Yx,Mj⟩:=alt_go Hq Hh;subst hn;have hx:y.e=x.e/\y.wh=x.wh/\I y.ns+20*x.aQ<=I x.ns+20*y.aQ+1:=⟨Hh.1.1,Hh.1.2.1,Hh.1.2.2.1⟩;have:IntKind.i64.wrap ((y.aQ:Int)+1)=(y.aQ:Int)+1:=zIn _ zzDK
    have XD:zH (gD B pb s {y with aQ:=y.aQ+1} yx (ς wr (pb.p 1) (ι ((y.aQ:Int)+1)))/\PK pb lv yx w (ς wr (pb.p 1) (ι ((y.aQ:Int)+1)))):=zh ⟨XY.o.pr.set 1 _ _ zs rfl ⟨by assumption,XY.o.pr.sz.2.2.1,XY.o.pr.sz.2.2.2⟩,XY.o.pk.trans (PK.set 1 _)⟩;go_upto_region 5 with fail
    generalize wr.setCell (pb.p 1) (ι ((y.aQ:Int)+1))=w2 at XD ⊢;have HK:zH (Γ 72 #[bH pb,ι deep] w2 (TrO B pb s {y with aQ:=y.aQ+1} 1 6 0 (kM s g deep (y.aQ+1) []) yx w2)):=
     zh (IH.o g (by have:=HG.o;have:=hg;omega) B pb s {y with aQ:=y.aQ+1} yx w2 deep XD.o.1 C5 (by have:=hx;have:=YX.o;show I y.ns<=20*(y.aQ+1)+11;omega) YX.o.2.1 Yx)
    clear Qq;generalize kM s g deep (y.aQ+1) []=RP at HK EQ hx Mj;unfold bH at HK;go_upto_region 6 with (have H0:=HK.o;go_at_call 72;refine H0.mono ?_;rintro e' w3 ⟨k2,y2,JI,rfl,g1,g2,g3,g4,g5,g6⟩)
    have Ve:y.ns<+:y2.ns:=g3;have ZE:y.aQ+1<=y2.aQ:=g5;have Qo:=zh (alt_next EQ Ve hx Mj g6);have x8:I y2.ns<=2000:=by
     have:=g6;have:=hx;have:=YX.o;have:=g1.sz;cases RP with
     | error er=>
      omega
     | ok r=>
      omega
    have HN:=zh (nT g1 3 k k2 zo (λ_=>zLd XY.o.lt Ve.length_le) (λ_ _=>g4) zo);have Qw:zH (PK pb lv JI w w3/\x.ns<+:y2.ns/\x.aQ<=y2.aQ):=zh ⟨XD.o.2.trans g2,XY.o.pre.trans Ve,by have:=XY.o.le;omega⟩;clear x8 Ve ZE;unfold bH at HN;go_upto_region 7 with (have H0:=HN.o;go_at_call 74;refine H0.mono ?_;rintro e' w4 ⟨lv4,rfl,ho⟩)
    have um:zH (rZ B pb s x lv w (I y2.ns) {y2 with ns:=y2.ns++[nS y2.ns 3 ν [] k k2]} lv4 w4):=zh ⟨ho.1,Qw.o.1.trans ho.2,Qw.o.2.1.trans (jK _ _),zs,Qw.o.2.2⟩;generalize (I y2.ns)=k4 at um Qo ⊢;generalize ({y2 with ns:=y2.ns++[nS y2.ns 3 ν [] k k2]}:Pr)=y4 at um Qo ho;clear Qw;have Qx:=zh (iR B pb s y4 lv4 w4 um.o.pr);have QS:=zh (zhf he Hq Qo.o)
    have uo:zH (∀ w',PrO B pb s (eI s y4) lv4 w4 w'->rZ B pb s x lv w k4 (eI s y4) lv4 w'):=zh (λw' h=>um.o.peek h);generalize bT s y4.aQ=cn at Qx QS;obtain⟨c,n⟩:=cn;generalize eI s y4=y5 at Qx QS uo;dsimp only at Qx QS;unfold bH at Qx;go_wp2_with (first|(have H0:=Qx.o;go_at_call 73;refine H0.mono ?_;rintro e' w5 ⟨rfl,ho⟩;have H5:=zh (uo.o _ ho)));go_roundg g
    case rel=>exact⟨g,k4,y5,lv4,c,n,rfl,by have:=hg;have:=HG.o;omega,rfl,rfl,rfl,H5.o,QS.o⟩
    case measure=>have:=hg;have:=HG.o;omega
  have:(c==124)=false:=by simp[VI]
  go_wp2;go_ret;exact alt_out he Hq XY.o (.inr ⟨Hh,VI⟩)
theorem zi5:∀ g,RCatC g/\RAtomC g/\RAltC g:=by
 intro g
 induction g using Nat.strongRecOn with
 | ind g ih=>grind [rcat_any,ratom_any,ralt_any]
def GoodC (c:θ):Prop:=iF c/\I c<=62
def iY (b:Nat) (t:aL):Prop:=(∀ c∈kU t,GoodC c)/\nK t<=5*b*max 1 (gJ t)/\∀ n,n<=65->pG t n<=5*b*(66-n)
def yY (b:Nat) (l:List aL):Prop:=(∀ c∈uX l,GoodC c)/\sD l<=5*b*max 1 (jO l)/\∀ n,n<=65->yT l n<=5*b*(66-n)
theorem zhV {n:Nat} (h:a<=b) (k:m<=n):5*a*m<=5*b*n:=Nat.mul_le_mul (Nat.mul_le_mul_left 5 h) k
theorem iY.mono {b2:Nat} (h:iY b t) (hb:b<=b2):iY b2 t:=⟨h.1,zT h.2.1 (zhV hb bR),λn hn=>zT (h.2.2 n hn) (zhV hb bR)⟩
theorem zhT {n x y:Nat} (hx:x<=5*a*m) (hy:y<=5*b*n) (hm:m<=k) (hn:n<=k):x+y<=5*(a+b)*k:=by
 have:5*a*m<=5*a*k:=Nat.mul_le_mul_left _ hm;have:5*b*n<=5*b*k:=Nat.mul_le_mul_left _ hn
 grind
theorem zcH {x:Nat} (hx:x<=5*b*m) (hm:1<=m):x+5<=5*(b+1)*m:=by
 grind
theorem zd6:∀ (a b:List aL),sD (a++b)=sD a+sD b
 | [],b=>by simp[sD]
 | t::a,b=>by rw[List.cons_append,sD,sD,zd6 a b];omega
theorem zex:∀ (a b:List aL),jO (a++b)=jO a+jO b
 | [],b=>by simp[jO]
 | t::a,b=>by rw[List.cons_append,jO,jO,zex a b];omega
theorem zd4:∀ (a b:List aL),uX (a++b)=uX a++uX b
 | [],b=>by rfl
 | t::a,b=>by rw[List.cons_append,uX,uX,zd4 a b,List.append_assoc]
theorem zcO (t:aL):∀ m,sD (ψ m t)=m*nK t/\jO (ψ m t)=m*gJ t/\∀ c∈uX (ψ m t),c∈kU t
 | 0=>⟨by simp[sD],by simp[jO],λc hc=>by simp[uX] at hc⟩
 | m+1=>by
  obtain⟨h1,h2,h3⟩:=zcO t m
  grind [sD,jO,uX]
mutual
theorem zcJ:∀ (t:aL),gJ t=0->cE t=0
 | .cL c,h=>by simp[gJ] at h
 | .row l,h=>by rw[gJ] at h;rw[cE];exact zhW l h
 | .either a b,h=>by
  rw[gJ] at h;rw[cE,zcJ a zo,zcJ b zo];rfl
 | .rep t m o,h=>by rw[gJ] at h;rw[cE];exact zcJ t h
theorem zhW:∀ (l:List aL),jO l=0->iX l 0=0
 | [],_=>by rfl
 | t::l,h=>by
  rw[jO] at h;rw[iX,zcJ t zo];exact zhW l zo
end
theorem iY.row {l:List aL} (h:yY b l):iY b (.row l):=⟨by rw[kU];exact h.1,by rw[nK,gJ];exact h.2.1,λn hn=>by rw[pG];exact h.2.2 n hn⟩
theorem yY.nil (b:Nat):yY b []:=⟨λc hc=>by simp[uX] at hc,by simp[sD],λn _=>by rw[yT];omega⟩
theorem yY.snoc {l:List aL} (h:yY a l) (k:iY b t):yY (a+b) (l++[t]):=by
 refine⟨λc hc=> ?_,?_,λn hn=> ?_⟩
 . rw[zd4,zMa] at hc
   rcases hc with hc|hc
   . exact h.1 c hc
   simp[uX] at hc;exact k.1 c hc
 . rw[zd6,zex]
   have e1:sD [t]=nK t:=by simp[sD]
   have e2:jO [t]=gJ t:=by simp[jO]
   rw[e1,e2];exact zhT h.2.1 k.2.1 zo zo
 rw[zfa t l n hn]
 split
 . rename_i qo
   exact zhT h.2.1 (k.2.2 _ qo) zo zo
 exact zT (h.2.2 n hn) (zhV zo bR)
theorem iY.either (h:iY a t) (k:iY b u):iY (a+b+1) (.either t u):=by
 refine⟨λc hc=> ?_,?_,λn hn=> ?_⟩
 . rw[kU,zMa] at hc
   rcases hc with hc|hc
   . exact h.1 c hc
   exact k.1 c hc
 . rw[nK,gJ]
   have:=zcH (zhT h.2.1 k.2.1 (k:=max 1 (gJ t+gJ u)) zo zo) zo;omega
 rw[pG]
 split
 . rename_i qo
   have:=zcH (zhT h.2.1 (k.2.2 _ qo) (k:=66-n) zo zo) zo
   grind [oC]
 have:=zcH (zT (h.2.2 n hn) (zhV (show a<=a+b by omega) bR)) zo
 omega
theorem iY.rep (h:iY b t) (m:Int) (o:Bool):iY (b+1) (.rep t m o):=by
 refine⟨by rw[kU];exact h.1,?_,λn hn=> ?_⟩
 . rw[nK,gJ]
   exact zcH h.2.1 zo
 rw[pG]
 exact zcH (h.2.2 n hn) zo
theorem iY.copies (h:iY b t) (hp:1<=gJ t) (m k:Nat) (u:aL) (hu:u=.rep t 1 false\/u=.rep t 0 true):iY (b+1) (.row (ψ m t++ψ k u)):=by
 have NJ:nK u=nK t+5/\gJ u=gJ t/\kU u=kU t:=by rcases hu with rfl|rfl<;>exact⟨by rw[nK],by rw[gJ],by rw[kU]⟩
 obtain⟨r1,r2,r3⟩:=zcO t m;obtain⟨s1,s2,s3⟩:=zcO u k;have Sy:nK t+5<=5*(b+1)*gJ t:=by
  have h2:=h.2.1;rw[show max 1 (gJ t)=gJ t by omega] at h2;exact zcH h2 hp
 refine iY.row ⟨λc hc=> ?_,?_,ze9 _ λx hx=> ?_⟩
 . rw[zd4,zMa] at hc
   rcases hc with hc|hc
   . exact h.1 c (r3 c hc)
   exact h.1 c (NJ.2.2▸s3 c hc)
 . rw[zd6,zex,r1,r2,s1,s2,NJ.1,NJ.2.1,<-Nat.add_mul]
   have:(m+k)*(nK t+5)<=(m+k)*(5*(b+1)*gJ t):=Nat.mul_le_mul_left _ Sy;have:5*(b+1)*((m+k)*gJ t)<=5*(b+1)*max 1 ((m+k)*gJ t):=Nat.mul_le_mul_left _ zo
   grind
 have:∀ n,n<=65->pG t n+5<=5*(b+1)*(66-n):=λn hn=>zcH (h.2.2 n hn) zo
 grind [pG]
theorem pf_times (ht:iY b t) (hp:p<s.size) (h:nX s p t=.ok (u,q)):p<q/\q<=s.size/\iY (b+1) u:=by
 rw[za9] at h;split at h
 . cases h
 rename_i lo q1 VO
 have h1:=yB VO;split at h
 . cases h
 rename_i hi q2 jq
 have h2:q1<=q2:=by
  unfold nH at jq;split at jq
  . split at jq
    . cases hn:eV s (q1+1) p with
      | error e=>rw[hn] at jq;cases jq
      | ok r=>rw[hn] at jq;cases jq;have:=yB hn;omega
    grind
  grind
 split at h
 . cases h
 rename_i Qt
 have Vs:q2<s.size:=by
  have:uZ s q2 125=true:=by
   cases hb:uZ s q2 125 with
   | true=>rfl
   | false=>grind
  unfold uZ at this;rw[Bool.and_eq_true,decide_eq_true_eq] at this;exact this.1
 have XT:1<=gJ t:=by
  rcases Nat.eq_zero_or_pos (gJ t) with h0|h0
  . grind [zcJ]
  exact h0
 split at h
 . split at h
   . cases h
     exact⟨zo,zo,ht.rep 0 false⟩
   cases h
   exact⟨zo,zo,ht.copies XT _ 1 _ (.inl rfl)⟩
 cases h
 exact⟨zo,zo,ht.copies XT _ _ _ (.inr rfl)⟩
theorem zgR {c:Int} (h:cQ s p=.ok c) (hc:c≠ -1):p<s.size:=by
 grind [gA,uG]
theorem zhU (ht:iY b t) (hp:p<=s.size) (h:gY s p t=.ok (u,q)):p<=q/\q<=s.size/\iY (b+(q-p)) u:=by
 unfold gY at h;split at h
 . cases h
 rename_i c hc
 split at h
 . rename_i e
   have:=zgR hc zo;cases h;exact⟨zo,zo,by rw[show p+1-p=1 by omega];exact ht.rep 0 false⟩
 split at h
 . rename_i e
   have:=zgR hc zo;cases h;exact⟨zo,zo,by rw[show p+1-p=1 by omega];exact ht.rep 1 false⟩
 split at h
 . rename_i e
   have:=zgR hc zo;cases h;exact⟨zo,zo,by rw[show p+1-p=1 by omega];exact ht.rep 0 true⟩
 split at h
 . rename_i e
   have:=zgR hc zo;obtain⟨h1,h2,h3⟩:=pf_times ht this h;exact⟨zo,h2,h3.mono zo⟩
 grind
theorem again_ne (h:gY s p t=.error er):er.1≠0:=by
 unfold gY at h;split at h
 . grind [uH]
 split at h
 . cases h
 split at h
 . cases h
 split at h
 . cases h
 split at h
 . rw[za9] at h
   have:∀ (p k:Nat) (e:mP),eV s p k=.error e->e.1≠0:=λp k e he=>by
    grind [eV]
   split at h
   . grind
   split at h
   . rename_i e he
     cases h;unfold nH at he;split at he
     . split at he
       . rename_i q1 _ _ _ _
         cases hn:eV s (q1+1) p with
         | error e=>rw[hn] at he;cases he;grind
         | ok r=>rw[hn] at he;cases he
       grind
     grind
   grind
 grind
theorem zeg {c:θ} (h:GoodC c) (hb:1<=b):iY b (.cL c):=by
 refine⟨λx hx=>by grind [kU],?_,λn hn=> ?_⟩
 . grind [nK,gJ]
 rw[pG]
 have:5*b*1<=5*b*(66-n):=Nat.mul_le_mul_left _ zo;omega
section
variable (s:η)
def PfAlt (f:Nat):Prop:=∀ deep p,p<=s.size->(3*(s.size-p)+2<=f->nI s f deep p≠ .error (0,0))/\∀ t q,nI s f deep p=.ok (t,q)->p<=q/\q<=s.size/\iY (q-p) t
def zha (f:Nat):Prop:=∀ deep p t b,p<=s.size->(3*(s.size-p)+1<=f->fT s f deep p t≠ .error (0,0))/\(iY b t->∀ u q,fT s f deep p t=.ok (u,q)->p<=q/\q<=s.size/\iY (b+(q-p)) u)
def PfRow (f:Nat):Prop:=∀ deep p l b,p<=s.size->(3*(s.size-p)+1<=f->kM s f deep p l≠ .error (0,0))/\(yY b l->∀ u q,kM s f deep p l=.ok (u,q)->p<=q/\q<=s.size/\iY (b+(q-p)) u)
def PfAtom (f:Nat):Prop:=∀ deep p,p<s.size->(3*(s.size-p)<=f->kT s f deep p≠ .error (0,0))/\∀ t q,kT s f deep p=.ok (t,q)->p<q/\q<=s.size/\iY (q-p) t
end
theorem ne_of1 (h:er.1≠0):(.error er:Except mP (aL×Nat))≠ .error (0,0):=λe=>by
 grind
theorem one_bad (hp:p<s.size) (h:(bT s p).1<0):(bT s p).2=1:=by
 grind [bT]
theorem pf_alt (h1:PfRow s f) (h2:zha s f):PfAlt s (f+1):=by
 intro deep p hp;rw[zdH];refine⟨λhf=> ?_,λt q h=> ?_⟩
 . have:=(h1 deep p [] 0 hp).1 zo
   cases hr:kM s f deep p [] with
   | error e=>grind
   | ok r=>
    obtain⟨t,q⟩:=r;obtain⟨b1,b2,b3⟩:=(h1 deep p [] 0 hp).2 (yY.nil 0) t q hr;exact (h2 deep q t 0 b2).1 zo
 cases hr:kM s f deep p [] with
 | error e=>grind
 | ok r=>
  obtain⟨t1,q1⟩:=r;rw[hr] at h;obtain⟨b1,b2,b3⟩:=(h1 deep p [] 0 hp).2 (yY.nil 0) t1 q1 hr;obtain⟨c1,c2,c3⟩:=(h2 deep q1 t1 _ b2).2 b3 t q h
  grind
theorem pf_loop2 (h1:PfRow s f) (h2:zha s f):zha s (f+1):=by
 intro deep p t b hp;rw[qC];cases qx:cQ s p with
 | error e=>
  grind [uH]
 | ok c=>
  dsimp only;by_cases hc:c=124
  . rw[zP hc]
    have:=zgR qx zo;refine⟨λhf=> ?_,λhg u q h=> ?_⟩
    . have:=(h1 deep (p+1) [] 0 zo).1 zo
      cases hr:kM s f deep (p+1) [] with
      | error e=>grind
      | ok r=>
       obtain⟨t1,q1⟩:=r;obtain⟨b1,b2,b3⟩:=(h1 deep (p+1) [] 0 zo).2 (yY.nil 0) t1 q1 hr;exact (h2 deep q1 _ 0 b2).1 zo
    cases hr:kM s f deep (p+1) [] with
    | error e=>grind
    | ok r=>
     obtain⟨t1,q1⟩:=r;rw[hr] at h;obtain⟨b1,b2,b3⟩:=(h1 deep (p+1) [] 0 zo).2 (yY.nil 0) t1 q1 hr;obtain⟨c1,c2,c3⟩:=(h2 deep q1 _ _ b2).2 (hg.either b3) u q h
     grind
  grind
theorem pf_row (h1:PfAtom s f) (h2:PfRow s f):PfRow s (f+1):=by
 intro deep p l b hp;rw[vW];cases qx:cQ s p with
 | error e=>
  grind [uH]
 | ok c=>
  dsimp only;by_cases hc:c= -1\/c=124\/c=41
  . grind [iY.row]
  rw[zN hc]
  have Hf:=zgR qx zo;refine⟨λhf=> ?_,λhg u q h=> ?_⟩
  . have:=(h1 deep p Hf).1 zo
    cases hr:kT s f deep p with
    | error e=>grind
    | ok r=>
     obtain⟨t1,q1⟩:=r;obtain⟨b1,b2,b3⟩:=(h1 deep p Hf).2 t1 q1 hr;dsimp only;cases Mu:gY s q1 t1 with
     | error e=>exact ne_of1 (again_ne Mu)
     | ok r2=>
      obtain⟨t2,q2⟩:=r2;obtain⟨d1,d2,d3⟩:=zhU b3 b2 Mu;exact (h2 deep q2 _ 0 d2).1 zo
  cases hr:kT s f deep p with
  | error e=>grind
  | ok r=>
   obtain⟨t1,q1⟩:=r;obtain⟨b1,b2,b3⟩:=(h1 deep p Hf).2 t1 q1 hr;rw[hr] at h;dsimp only at h;cases Mu:gY s q1 t1 with
   | error e=>grind
   | ok r2=>
    obtain⟨t2,q2⟩:=r2;rw[Mu] at h;obtain⟨d1,d2,d3⟩:=zhU b3 b2 Mu;obtain⟨c1,c2,c3⟩:=(h2 deep q2 _ _ d2).2 (hg.snoc d3) u q h
    grind
theorem pf_atom (hs:s.size<=60) (h1:PfAlt s f):PfAtom s (f+1):=by
 intro deep p hp;rw[zcN];cases qx:cQ s p with
 | error e=>
  grind [uH]
 | ok c=>
  dsimp only;by_cases A7:c=40
  . rw[zP A7]
    by_cases h8:deep=8
    . grind
    rw[zN h8]
    refine⟨λhf=> ?_,λu q h=> ?_⟩
    . have:=(h1 (deep+1) (p+1) zo).1 zo
      grind [cQ]
    cases hr:nI s f (deep+1) (p+1) with
    | error e=>grind
    | ok r=>
     obtain⟨t1,q1⟩:=r;rw[hr] at h;obtain⟨b1,b2,b3⟩:=(h1 (deep+1) (p+1) zo).2 t1 q1 hr;dsimp only at h;cases yf:cQ s q1 with
     | error e=>grind
     | ok d=>
      rw[yf] at h;dsimp only at h;split at h
      . rename_i hd
        have:=zgR yf zo;cases h;exact⟨zo,zo,b3.mono zo⟩
      grind
  rw[zN A7]
  by_cases CM:c=91
  . rw[zP CM]
    refine⟨λ_=> ?_,λu q h=> ?_⟩
    . cases hc:dN s (p+1) p with
      | error e=>grind [zhl]
      | ok r=>simp
    cases hc:dN s (p+1) p with
    | error e=>grind
    | ok r=>
     rw[hc] at h;obtain⟨l,q1⟩:=r;cases h;obtain⟨b1,b2,b3,b4⟩:=pf_class hc zo hs;exact⟨zo,b4,zeg ⟨b1,b2⟩ zo⟩
  rw[zN CM]
  by_cases Ut:c=46
  . rw[zP Ut]
    refine⟨(λ_ h=>by cases h),λu q h=> ?_⟩;cases h;exact⟨zo,zo,zeg ⟨λr hr=>zg,zd⟩ zo⟩
  rw[zN Ut]
  split
  . simp
  refine⟨λ_=> ?_,λu q h=> ?_⟩
  . cases hc:cD s p with
    | error e=>
     have:=sJ zo hc
     grind
    | ok r=>simp
  cases hc:cD s p with
  | error e=>grind
  | ok r=>
   rw[hc] at h;obtain⟨v,q1⟩:=r;cases h;obtain⟨b1,b2,b3,b4,b5⟩:=zdK hc zo;have h0:=b5 (by
    grind [gA,one_bad])
   exact⟨h0.2,b4,zeg ⟨λr hr=>zg,zs⟩ zo⟩
theorem pf_all (hs:s.size<=60):∀ f,PfAlt s f/\zha s f/\PfRow s f/\PfAtom s f
 | 0=>⟨λdeep p hp=>⟨λh=>zo,λt q h=>by rw[nI] at h;cases h⟩,λdeep p t b hp=>⟨λh=>zo,λ_ u q h=>by rw[fT] at h;cases h⟩,λdeep p l b hp=>⟨λh=>zo,λ_ u q h=>by rw[kM] at h;cases h⟩,λdeep p hp=>⟨λh=>zo,λt q h=>by rw[kT] at h;cases h⟩⟩
 | f+1=>by
  obtain⟨h1,h2,h3,h4⟩:=pf_all hs f
  grind [pf_alt,pf_loop2,pf_row,pf_atom]
theorem zhe (hs:s.size<=60):nI s (4*s.size+10) 0 0≠ .error (0,0):=((pf_all hs (4*s.size+10)).1 0 0 rC).1 zo
theorem zdE (hs:s.size<=60) (h:iE s=.ok t):iY 60 t:=by
 unfold iE at h;split at h
 . cases h
 rename_i u q hq
 split at h
 . cases h
 cases h
 obtain⟨h1,h2,h3⟩:=((pf_all hs _).1 0 0 rC).2 _ _ hq;exact h3.mono zo
