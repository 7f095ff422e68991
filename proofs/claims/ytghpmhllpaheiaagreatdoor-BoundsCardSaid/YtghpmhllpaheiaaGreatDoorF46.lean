/- Part of a proof. No condition. -/
import Derived.Test.YtghpmhllpaheiaaGreatDoorF40
set_option linter.unusedVariables false
set_option linter.unusedSimpArgs false
set_option maxRecDepth 100000
set_option maxHeartbeats 16000000
namespace Go.Proofs.YtghpmhllpaheiaaGreatDoor
open Go.RowKit Go.Lib
variable {far:List Int} {i:Nat}
structure FarS (w:World) (gf n:Nat) (far:List Int) (wr:World):Prop where
 b:wr.heap[gf]?=some (.cells (dE far).toArray 3 (0,0))
 g:w.heap.size<=gf
 l:far.length=n
 w:Below w.heap.size w wr
section
variable {w wr w2:World} {gf n i:Nat} {far:List Int} {x:Int}
theorem FarS.later (h:FarS w gf n far wr) (hb:Below wr.heap.size wr w2):FarS w gf n far w2:=⟨(hb.block gf (aA h.b)).trans h.b,h.g,h.l,h.w.trans (hb.mono h.w.size)⟩
theorem FarS.set (h:FarS w gf n far wr) (i:Nat) (x:Int):FarS w gf n (far.set i x) (wr.setCell ⟨gf,i,none⟩ (.int .i64 x)):=by
 refine⟨?_,h.g,by rw[List.length_set];exact h.l,?_⟩
 . rw[aC wr gf i _ _ _ _ h.b]
   congr 2;rw[List.setIfInBounds_toArray];unfold dE;rw[List.map_set]
 refine h.w.trans ⟨rfl,rfl,rfl,by simp[World.setCell],λb hb=>aG _ _ _ _ (show b≠gf by have:=h.g;omega)⟩
theorem FarS.cell (h:FarS w gf n far wr) (hi:i<n):wr.cell? ⟨gf,i,none⟩=some (.int .i64 (far.getD i 0)):=by
 rw[aB _ _ i _ _ _ h.b];have:=fG (l:=far) (j:=i) (by rw[h.l];exact hi);simpa using this
end
structure BndH (D:TD) (T:iP) (n m:Nat):Prop where
 c:T.cU=D.cU
 g:T.gO=D.gO
 ns:D.sE.length=n
 ng:D.gO.length=n
 nm:D.cU.length=m
 rows:∀ r∈D.gO,r.length=m
 to':∀ i k,qH T i k<(n:Int)
 wid:∀ i k,0<=qH T i k->widR (T.cU.getD k 0)=yU T k/\1<=yU T k/\yU T k<=4
 rU:∀ i,i<n->(D.sE.getD i []).foldl (jB D.last) (-1)=ruO T (i:Int)
 rl:∀ i,i<n-> -1<=ruO T (i:Int)/\ruO T (i:Int)<=1000
 s1:∀ i,i<n->(∀ x∈D.sE.getD i [],x<D.last.length)/\(D.sE.getD i []).length<=1000000
 n1:1<=n/\n<=201
 m1:m<=50000
theorem relax_ne {T:iP} {far0:List Int} {k:Nat} (h:qI far0 far) (hi:i<far.length) (ht:0<=qH T i k) (hd:far.getD i 0<dO T far i k):mL T far i k=far.set i (dO T far i k)/\mL T far i k≠far0:=by
 have e:mL T far i k=far.set i (dO T far i k):=by unfold mL;rw[zN (by omega),zP hd]
 refine⟨e,λh2=> ?_⟩;rw[e] at h2;have h3:=h.2 i;rw[<-h2,jW hi] at h3;omega
theorem relax_eq {T:iP} {k:Nat} (hd:qH T i k<0\/¬ far.getD i 0<dO T far i k):mL T far i k=far:=by
 unfold mL;split
 . rfl
 rename_i h
 rw[zN]
 rcases hd with h1|h1
 . exact absurd h1 h
 exact h1
def UpB (far:List Int) (c:Nat):Prop:=∀ j,0<=far.getD j 0/\far.getD j 0<=4*(c:Int)
theorem UpB.mono {c d:Nat} (h:UpB far c) (hd:c<=d):UpB far d:=λj=>by have:=h j;omega
theorem UpB.set {c:Nat} {x:Int} (h:UpB far c) (h0:0<=x) (hx:x<=4*((c:Int)+1)):UpB (far.set i x) (c+1):=λj=>by
 have:=h j;by_cases Qr:i=j
 . subst Qr
   rcases zLg i far.length with hl|hl
   . rw[jW hl];omega
   rw[List.set_eq_of_length_le hl];omega
 rw[dY Qr];omega
theorem zfO (tb:Nat) (D:TD) (S:TS) (w:World) (h:fV tb D S w) (T:iP) (n m:Nat) (hH:BndH D T n m):
 Calls Tryz.prog 131 #[bJ tb] w λe w'=>e=.returned (.int .i64 (xA T n m (n+2) (List.replicate n 0)))/\Below w.heap.size w w':=by
 have HH:=zh hH;have H:=zh h;have Dh:=zaT n (by have:=hH.n1;omega) w;have Yk:=hH.n1;have th:=hH.m1;obtain⟨_,_,_,_,c4,_⟩:=h.cells;have Vg:w.ownsRow 0 39 1 S.vS n S.sv:=by have:=h.srow;rwa [hH.ns] at this
 obtain⟨aoS,cS,Tw⟩:=bM Vg;rw[Tw] at c4;have kz:=h.lt;obtain⟨Z,hZ⟩:=zE (xA T n m (n+2) (List.replicate n 0));rw[<-hZ];have HZ:=zh hZ;have Mf:=zh Tw;clear h hH Vg Tw hZ;unfold bJ;go_enter Tryz.func131,Tryz.ntmps131;go_upto_region 3 with (fail)
 have nf:zH (FarS w w.heap.size n (List.replicate n 0) (w.alloc (.cells (dE (List.replicate n 0)).toArray 3))):=zh ⟨bR _ _ _ rfl,zR _,by simp,(zBr _ w).alloc (zR _) _⟩;clear Dh c4 kz;generalize w.alloc (.cells (dE (List.replicate n 0)).toArray 3)=w1 at nf ⊢;generalize w.heap.size=gf at nf ⊢;go_wp2_with (fail);go_loopw [5] (λs5 wr=>∃ (r:Nat) (far:List Int),s5=.int .i64 r/\r<=n+2/\FarS w gf n far wr/\xA T n m (n+2-r) far=Z/\UpB far (r*(n*m))) (λs5 _=>n+2-(RowKit.intOf s5).toNat)
 case atStart=>exact⟨0,List.replicate n 0,rfl,by omega,nf.o,HZ.o.symm,λj=>by rw[oA];omega⟩
 case round=>
  clear nf;obtain⟨r,far,rfl,hr,ku,G7,DK⟩:=hrel;have Bb:=zh ku;have tU:=zh G7;have ed:=zh DK;have uh:=zW n (by omega);have Xe:=zW r (by omega);have Jq:n*m<=201*50000:=Nat.mul_le_mul Yk.2 th;clear ku G7 DK;by_cases Qz:r<=n+1
  . have zr:(r:Int)<=(n:Int)+1:=by omega
    have OI:r*(n*m)<=202*(201*50000):=Nat.mul_le_mul (by omega) Jq;obtain⟨cr,Pj⟩:=zE (r*(n*m));rw[<-Pj] at ed OI;have DZ:=zh Pj;clear Pj;go_wp2_with (fail);go_loopw [6,7] (λs6 s7 wr=>∃ (i:Nat) (g:Bool),s7=.int .i64 i/\s6=.bool g/\i<=n/\FarS w gf n (dV T m i far) wr/\(g=true↔dV T m i far≠far)/\UpB (dV T m i far) (cr+i*m)) (λ_ s7 _=>n-(RowKit.intOf s7).toNat)
    case atStart=>exact⟨0,false,rfl,rfl,by omega,Bb.o,by simp[dV],by rw[Nat.zero_mul];exact ed.o⟩
    case round=>
     clear Bb;obtain⟨i,g,rfl,rfl,hi,P5,hg,tC⟩:=hrel;have KF:=zh P5;have HG:=zh hg;have Pa:=zh tC;have ui:=zW i (by omega);clear hg tC P5;by_cases xm:i<n
     . have zi:(i:Int)<(n:Int):=by omega
       have Zv:i*m<=201*50000:=Nat.mul_le_mul (by omega) th;obtain⟨ci,dm⟩:=zE (i*m);rw[<-dm] at Pa Zv;have Wb:=zh dm;clear dm;go_wp2_with (fail);go_loopw [6,8] (λs6 s8 wr=>∃ (k:Nat) (g:Bool) (f:List Int),s8=.int .i64 k/\s6=.bool g/\k<=m/\f=mR T i k (dV T m i far)/\FarS w gf n f wr/\(g=true↔f≠far)/\UpB f (cr+ci+k)) (λ_ s8 _=>m-(RowKit.intOf s8).toNat)
       case atStart=>exact⟨0,g,_,rfl,rfl,by omega,rfl,KF.o,HG.o,Pa.o⟩
       case round=>
        clear KF HG Pa;obtain⟨k,g,f,rfl,rfl,hk,hf,P5,hg,tC⟩:=hrel;have Rc:=zh hf;have KF:=zh P5;have HG:=zh hg;have Pa:=zh tC;have Wp:zH (qI far f):=zh (by rw[hf];exact (oW T m i far).trans (zdm T i k _));have hr:=H.o.below P5.w;obtain⟨_,_,_,c3,_,c5,_⟩:=hr.cells;have kz:=hr.lt;have yp:cW wr S.vC D.cU:=hr.crow;have Kv:=zW k (by omega);clear hf hg;by_cases Y1:k<m
        . obtain⟨gC,capC,eC,lgC,cgC⟩:=sH yp (i:=k) (by rw[HH.o.nm];exact Y1)
          rw[eC,HH.o.nm] at c3;have zk:(k:Int)<(m:Int):=by omega
          have C6:wr.ownsRow 0 39 1 S.vG n S.gv:=by have:=hr.grow;rwa [HH.o.ng] at this
          obtain⟨gG,capG,u,eG,lgG,hu,cgG⟩:=qE C6 xm;rw[eG] at c5;have SB:=hr.gli i u hu;have Hb:(D.gO.getD i []).length=m:=HH.o.rows _ (by
           rw[zLf,zLe (by rw[HH.o.ng];exact xm)];exact List.getElem_mem _)
          obtain⟨gu,capu,eu,lgu,cgu⟩:=sH SB (i:=k) (by rw[Hb];exact Y1);rw[Hb] at eu;rw[eu] at cgG;have iO:∀ (l:List Int),l.length=m->l.getD k (-1)=l.getD k 0:=λl hl=>by
           rw[zLf,zLf,zLe (by omega)];rfl
          have XC:qH T i k=(D.gO.getD i []).getD k 0:=by
           rw[<-iO _ Hb];unfold qH;rw[HH.o.g]
          rw[<-XC] at cgu;have XA:T.cU.getD k 0=D.cU.getD k 0:=by rw[HH.o.c]
          have QM:zH (mR T i (k+1) (dV T m i far)=mL T f i k):=zh (by rw[Rc.o];rfl);have ud:=HH.o.to' i k;have Mg:=zh (HH.o.wid i k);have T6:zH (dO T f i k=if 0<=ruO T (qH T i k) then yU T k-1 else yU T k+f.getD (qH T i k).toNat 0):=zh rfl;have XI:=zh (λh1 h2=>relax_ne (T:=T) (i:=i) (k:=k) Wp.o (by rw[P5.l];exact xm) h1 h2);have Ni:=zh (λh=>relax_eq (T:=T) (far:=f) (i:=i) (k:=k) h);clear hr yp eC C6 eG hu SB Hb eu XC iO tC P5
          generalize qH T i k=tt at cgu ud Mg T6 XI Ni;by_cases ue:tt<0
          . have HN:=zh (Ni.o (.inl ue))
            go_wp2_with (fail);go_roundw
            case rel=>exact⟨k+1,g,f,by go_num,rfl,by omega,by rw[QM.o,HN.o],KF.o,HG.o,Pa.o.mono (by omega)⟩
            case measure=>(simp[zI]<;>omega)
          obtain⟨t,rfl⟩:=Int.eq_ofNat_of_zero_le (Int.not_lt.1 ue)
          have Cq:t<n:=by omega
          obtain⟨Ie,OY,Cv⟩:=Mg.o (by omega);have IQ:=zh (zfY (D.cU.getD k 0) wr);rw[<-XA,Ie] at IQ;rw[<-XA] at cgC;obtain⟨rs1,rs2⟩:=HH.o.s1 t Cq;have Uf:=zh (zdn tb D S wr (H.o.below KF.o.w) t (by rw[HH.o.ns];exact Cq) rs1 rs2);rw[HH.o.rU t Cq] at Uf;have JZ:=HH.o.rl t Cq;clear rs1 rs2 XA Ie Mg ue;generalize ruO T (t:Int)=ru at Uf T6 JZ;rw[Int.toNat_natCast] at T6;generalize yU T k=wd at IQ T6 OY Cv;generalize T.cU.getD k 0=ck at IQ cgC
          have hwd1:IntKind.i64.wrap (wd-1)=wd-1:=zIn _ (by omega);unfold bJ at Uf;go_upto_region 18 with (first|(go_at_call 156;refine IQ.o.mono ?_;rintro e' w4 ⟨rfl,rfl⟩)|(go_at_call 157;refine Uf.o.mono ?_;rintro e' w5 ⟨rfl,Yq⟩;have VT:=zh Yq;clear Yq))
          have XY:=zh (KF.o.later VT.o);have cfi:=XY.o.cell xm;have cft:=XY.o.cell Cq;have ffi:=aM w5 gf i _ _ XY.o.b;have Ys:=Pa.o i;have Jj:=Pa.o t;clear c3 c5 cgC cgG cgu kz lgC lgG lgu VT KF;obtain⟨fi,Tf⟩:=zE (f.getD i 0);obtain⟨ft,C5⟩:=zE (f.getD t 0);rw[<-Tf] at cfi Ys;rw[<-C5] at cft T6 Jj;have Kc:=zh Tf;clear Tf C5;by_cases UX:ru<0
          . have hd:dO T f i k=wd+ft:=by rw[T6.o,zN (by omega)]
            have hwd2:IntKind.i64.wrap (wd+ft)=wd+ft:=zIn _ (by push_cast at Jj;omega);by_cases d7:fi<wd+ft
            . have QV:=zh (XI.o (by omega) (by rw[<-Kc.o,hd];exact d7))
              rw[hd] at QV;have HN:zH (f.set i (wd+ft)=mR T i (k+1) (dV T m i far)):=zh (by rw[QM.o,QV.o.1]);have yb:zH (f.set i (wd+ft)≠far):=zh (by rw[<-QV.o.1];exact QV.o.2);have tW:zH (UpB (f.set i (wd+ft)) (cr+ci+(k+1))):=zh (Pa.o.set (by omega) (by push_cast at Jj ⊢;omega));have PR:=zh (XY.o.set i (wd+ft));clear hd Ys Jj QV XI Ni T6;go_wp2_with (fail);go_roundw
              case rel=>exact⟨k+1,true,_,by go_num,rfl,by omega,HN.o,PR.o,⟨λ_=>yb.o,λ_=>rfl⟩,tW.o⟩
              case measure=>(simp[zI]<;>omega)
            have HN:zH (f=mR T i (k+1) (dV T m i far)):=zh (by rw[QM.o,Ni.o (.inr (by rw[<-Kc.o,hd];omega))])
            have tW:zH (UpB f (cr+ci+(k+1))):=zh (Pa.o.mono (by omega));clear hd Ys Jj XI Ni T6;go_wp2_with (fail);go_roundw
            case rel=>exact⟨k+1,g,f,by go_num,rfl,by omega,HN.o,XY.o,HG.o,tW.o⟩
            case measure=>(simp[zI]<;>omega)
          have hd:dO T f i k=wd-1:=by rw[T6.o,zP (by omega)]
          by_cases d7:fi<wd-1
          . have QV:=zh (XI.o (by omega) (by rw[<-Kc.o,hd];exact d7))
            rw[hd] at QV;have HN:zH (f.set i (wd-1)=mR T i (k+1) (dV T m i far)):=zh (by rw[QM.o,QV.o.1]);have yb:zH (f.set i (wd-1)≠far):=zh (by rw[<-QV.o.1];exact QV.o.2);have tW:zH (UpB (f.set i (wd-1)) (cr+ci+(k+1))):=zh (Pa.o.set (by omega) (by push_cast at Jj ⊢;omega));have PR:=zh (XY.o.set i (wd-1));clear hd Ys Jj QV XI Ni T6;go_wp2_with (fail);go_roundw
            case rel=>exact⟨k+1,true,_,by go_num,rfl,by omega,HN.o,PR.o,⟨λ_=>yb.o,λ_=>rfl⟩,tW.o⟩
            case measure=>(simp[zI]<;>omega)
          have HN:zH (f=mR T i (k+1) (dV T m i far)):=zh (by rw[QM.o,Ni.o (.inr (by rw[<-Kc.o,hd];omega))])
          have tW:zH (UpB f (cr+ci+(k+1))):=zh (Pa.o.mono (by omega));clear hd Ys Jj XI Ni T6;go_wp2_with (fail);go_roundw
          case rel=>exact⟨k+1,g,f,by go_num,rfl,by omega,HN.o,XY.o,HG.o,tW.o⟩
          case measure=>(simp[zI]<;>omega)
        have zk:¬ (k:Int)<(m:Int):=by omega
        obtain⟨aoC,capC,eC⟩:=yp.form;rw[eC,HH.o.nm] at c3;have UI:k=m:=by omega
        have HN:zH (f=dV T m (i+1) far):=zh (by rw[Rc.o,UI];rfl);have QY:cr+ci+k<=cr+(i+1)*m:=by rw[Nat.succ_mul,<-Wb.o];omega
        have T1:=zh QY;clear hr yp eC tC P5 UI QY;go_wp2_with (fail);go_roundw
        case rel=>exact⟨i+1,g,by go_num,rfl,by omega,by rw[<-HN.o];exact KF.o,by rw[<-HN.o];exact HG.o,by rw[<-HN.o];exact Pa.o.mono T1.o⟩
        case measure=>(simp[zI]<;>omega)
     have zi:¬ (i:Int)<(n:Int):=by omega
     have Jm:i=n:=by omega
     subst Jm;cases g with
     | false=>
      have Ew:dV T m i far=far:=Classical.byContradiction λh=>by have:=HG.o.2 h;cases this
      have HB:zH (lY T far i 0 0+1=Z):=zh (by
       have e:i+2-r=(i+1-r)+1:=by omega
       rw[<-tU.o,e,xA,zP Ew])
      rw[Ew] at KF;clear Ew HG Pa tU DZ;go_wp2_with (fail);go_loopw [13,14] (λs13 s14 wr=>∃ (j:Nat) (b:Int),s14=.int .i64 j/\s13=.int .i64 b/\j<=i/\lY T far (i-j) j b=lY T far i 0 0/\FarS w gf i far wr/\0<=b/\b<=100000000000) (λ_ s14 _=>i-(RowKit.intOf s14).toNat)
      case atStart=>exact⟨0,0,rfl,rfl,by omega,rfl,KF.o,by omega,by omega⟩
      case round=>
       clear KF;obtain⟨j,b,rfl,rfl,hj,Az,P5,VA,Hk⟩:=hrel;have tI:=zh Az;have KF:=zh P5;clear Az P5;by_cases Yb:j<i
       . have zj:(j:Int)<(i:Int):=by omega
         have Lp:=zW j (by omega);obtain⟨rs1,rs2⟩:=HH.o.s1 j Yb;have Uf:=zh (zdn tb D S wr (H.o.below KF.o.w) j (by rw[HH.o.ns];exact Yb) rs1 rs2);rw[HH.o.rU j Yb] at Uf;have Hq:zH (lY T far (i-j) j b=lY T far (i-(j+1)) (j+1) (if 0<j/\ruO T (j:Int)<0 then b else max b (far.getD j 0))):=zh (by
          have e:i-j=(i-(j+1))+1:=by omega
          rw[e,lY];rfl)
         have DK:=ed.o j;clear rs1 rs2;generalize ruO T (j:Int)=ru at Uf Hq;unfold bJ at Uf;go_upto_region 29 with (go_at_call 157;refine Uf.o.mono ?_;rintro e' w5 ⟨rfl,Yq⟩;have VT:=zh Yq;clear Yq)
         have XY:=zh (KF.o.later VT.o);have cfj:=XY.o.cell Yb;clear VT KF;generalize far.getD j 0=fj at cfj Hq DK;rw[tI.o] at Hq;by_cases Eu:0<j/\ru<0
         . have HN:zH (lY T far (i-(j+1)) (j+1) b=lY T far i 0 0):=zh (by rw[Hq.o,zP Eu])
           have z0:((j:Int)==0)=false:=beq_eq_false_iff_ne.2 (by omega);have z1:¬ 0<=ru:=by omega
           clear Hq tI DK Eu;go_wp2_with (fail);go_roundw
           case rel=>exact⟨j+1,b,by go_num,rfl,by omega,HN.o,XY.o,VA,Hk⟩
           case measure=>(simp[zI]<;>omega)
         have Xi:j=0\/(j≠0/\0<=ru):=by omega
         by_cases d7:b<fj
         . have HN:zH (lY T far (i-(j+1)) (j+1) fj=lY T far i 0 0):=zh (by rw[Hq.o,zN Eu,show max b fj=fj by omega])
           clear Hq tI Eu;have YM:0<=fj/\fj<=100000000000:=by omega
           clear DK
           rcases Xi with h0|⟨h0,h1⟩
           . have z0:((j:Int)==0)=true:=by simp[h0]
             clear h0;go_wp2_with (fail);go_roundw
             case rel=>exact⟨j+1,fj,by go_num,rfl,by omega,HN.o,XY.o,YM.1,YM.2⟩
             case measure=>(simp[zI]<;>omega)
           have z0:((j:Int)==0)=false:=beq_eq_false_iff_ne.2 (by omega)
           clear h0;go_wp2_with (fail);go_roundw
           case rel=>exact⟨j+1,fj,by go_num,rfl,by omega,HN.o,XY.o,YM.1,YM.2⟩
           case measure=>(simp[zI]<;>omega)
         have HN:zH (lY T far (i-(j+1)) (j+1) b=lY T far i 0 0):=zh (by rw[Hq.o,zN Eu,show max b fj=b by omega])
         clear Hq tI DK Eu
         rcases Xi with h0|⟨h0,h1⟩
         . have z0:((j:Int)==0)=true:=by simp[h0]
           clear h0;go_wp2_with (fail);go_roundw
           case rel=>exact⟨j+1,b,by go_num,rfl,by omega,HN.o,XY.o,VA,Hk⟩
           case measure=>(simp[zI]<;>omega)
         have z0:((j:Int)==0)=false:=beq_eq_false_iff_ne.2 (by omega)
         clear h0;go_wp2_with (fail);go_roundw
         case rel=>exact⟨j+1,b,by go_num,rfl,by omega,HN.o,XY.o,VA,Hk⟩
         case measure=>(simp[zI]<;>omega)
       . have zj:¬ (j:Int)<(i:Int):=by omega
         have HE:zH (b+1=Z):=zh (by
          have hb:=tI.o;rw[show i-j=0 by omega,lY] at hb;rw[hb];exact HB.o)
         have hwb:IntKind.i64.wrap (b+1)=b+1:=zIn _ (by omega);clear tI;go_wp2_with (fail);go_ret;exact⟨by rw[<-HE.o];rfl,KF.o.w⟩
     | true=>
      have Ew:dV T m i far≠far:=HG.o.1 rfl;have HN:zH (xA T i m (i+2-(r+1)) (dV T m i far)=Z):=zh (by
       have e:i+2-r=(i+2-(r+1))+1:=by omega
       rw[<-tU.o,e,xA,zN Ew])
      have tW:zH (UpB (dV T m i far) ((r+1)*(i*m))):=zh (Pa.o.mono (by rw[Nat.succ_mul,<-DZ.o];exact zR _));clear Ew HG Pa tU DZ;go_wp2_with (fail);go_roundw
      case rel=>exact⟨r+1,_,by go_num,by omega,KF.o,HN.o,tW.o⟩
      case measure=>(simp[zI]<;>omega)
  have zr:¬ (r:Int)<=(n:Int)+1:=by omega
  have HE:zH (-1=Z):=zh (by rw[<-tU.o,show n+2-r=0 by omega];rfl);clear tU ed;go_wp2_with (fail);go_ret;exact⟨by rw[<-HE.o];rfl,Bb.o.w⟩
