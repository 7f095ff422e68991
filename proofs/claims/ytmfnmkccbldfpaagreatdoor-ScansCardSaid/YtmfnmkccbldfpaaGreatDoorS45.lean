/- Part of a proof. No condition. -/
import Derived.Test.YtmfnmkccbldfpaaGreatDoorS39
set_option linter.unusedVariables false
set_option linter.unusedSimpArgs false
set_option maxRecDepth 100000
set_option maxHeartbeats 16000000
namespace Go.Proofs.YtmfnmkccbldfpaaGreatDoor
open Go.RowKit Go.Lib Tryz
theorem zzCD {p:Prop} (h:p:=by
 clear h0;go_wp2;go_roundw
 case rel=>exact⟨j+1,fj,by go_num,rfl,zo,HN.o,VV.o,Xl.1,Xl.2⟩
 case measure=>exact zY):p:=h
theorem zzBc {p:Prop} (h:p:=by
 clear hd xg UV QL xe Ee uj;go_wp2_with fail;go_roundw
 case rel=>exact⟨k+1,true,_,by go_num,rfl,zo,HN.o,VC.o,⟨λ_=>Q4.o,λ_=>rfl⟩,A3.o⟩
 case measure=>exact zY):p:=h
theorem zzBO {p:Prop} (h:p:=by
 go_wp2;go_roundw
 case rel=>exact⟨j+1,b,by go_num,rfl,zo,HN.o,VV.o,V3,Hk⟩
 case measure=>exact zY):p:=h
theorem zzAp {p:Prop} (h:p:=by
 have HN:zH (f=zeH T i (k+1) (kO T m i far)):=zh (by rw[Qo.o,Ee.o (.inr (by rw[<-Jt.o,hd];omega))])
 have A3:zH (UpB f (cr+ci+(k+1))):=zh (TG.o.mono zo);clear hd xg UV xe Ee uj;go_wp2_with fail;go_roundw
 case rel=>exact⟨k+1,g,f,by go_num,rfl,zo,HN.o,VV.o,HG.o,A3.o⟩
 case measure=>exact zY):p:=h
variable {far:List Int} {i:Nat}
structure FarS (w:ω) (gf n:Nat) (far:List Int) (wr:ω):Prop where
 b:wr.h gf (dP far).toArray 3
 g:w.t<=gf
 l:I far=n
 w:w.u wr
section
variable {w wr w2:ω} {gf n i:Nat} {far:List Int} {x:Int}
theorem FarS.later (h:FarS w gf n far wr) (hb:wr.u w2):FarS w gf n far w2:=⟨(hb.block gf (aA h.b)).trans h.b,h.g,h.l,h.w.trans (hb.mono h.w.size)⟩
theorem FarS.set (h:FarS w gf n far wr) (i:Nat) (x:Int):FarS w gf n (far.set i x) (ς wr (gf.p i) (ι x)):=by
 refine⟨?_,h.g,by rw[List.length_set];exact h.l,?_⟩
 . rw[aB wr gf i _ _ _ _ h.b]
   grind [dP,List.map_set]
 refine h.w.trans ⟨rfl,rfl,rfl,zs,λb hb=>aD _ _ _ _ (show b≠gf by have:=h.g;omega)⟩
theorem FarS.cell (h:FarS w gf n far wr) (hi:i<n):wr.i gf i (χ far i 0):=by
 rw[bF _ _ i _ _ _ h.b]
 grind [gP,l]
end
structure BndH (D:TD) (T:dX) (n m:Nat):Prop where
 c:T.cU=D.cU
 g:T.gO=D.gO
 ns:I D.sE=n
 ng:I D.gO=n
 nm:I D.cU=m
 rows:∀ r∈D.gO,I r=m
 to':∀ i k,toO T i k<(n:Int)
 wid:∀ i k,0<=toO T i k->widR (χ T.cU k 0)=widO T k/\1<=widO T k/\widO T k<=4
 rU:∀ i,i<n->(χ D.sE i []).foldl (kK D.last) (-1)=ruO T (i:Int)
 rl:∀ i,i<n-> -1<=ruO T (i:Int)/\ruO T (i:Int)<=1000
 s1:∀ i,i<n->(∀ x∈χ D.sE i [],x<I D.last)/\I (χ D.sE i [])<=1000000
 n1:1<=n/\n<=201
 m1:m<=50000
theorem relax_ne {T:dX} {far0:List Int} {k:Nat} (h:LeF far0 far) (hi:i<I far) (ht:0<=toO T i k) (hd:χ far i 0<dO T far i k):vA T far i k=far.set i (dO T far i k)/\vA T far i k≠far0:=by
 have e:vA T far i k=far.set i (dO T far i k):=by unfold vA;rw[zN zo,zP hd]
 refine⟨e,λh2=> ?_⟩;rw[e] at h2;have:=h.2 i
 grind
theorem relax_eq {T:dX} {k:Nat} (hd:toO T i k<0\/¬ χ far i 0<dO T far i k):vA T far i k=far:=by
 grind [vA]
def UpB (far:List Int) (c:Nat):Prop:=∀ j,0<=χ far j 0/\χ far j 0<=4*(c:Int)
theorem UpB.mono {c d:Nat} (h:UpB far c) (hd:c<=d):UpB far d:=λj=>by have:=h j;omega
theorem UpB.set {c:Nat} {x:Int} (h:UpB far c) (h0:0<=x) (hx:x<=4*((c:Int)+1)):UpB (far.set i x) (c+1):=λj=>by
 have:=h j
 grind
theorem ziX (tb:Nat) (D:TD) (S:TS) (w:ω) (h:gW tb D S w) (T:dX) (n m:Nat) (hH:BndH D T n m):
 Γ 37 #[bH tb] w λe w'=>e=ρ (ι (refB T n m (n+2) (ψ n 0)))/\w.u w':=by
 have HH:=zh hH;have H:=zh h;have GZ:=zcs n (by have:=hH.n1;omega) w;have YS:=hH.n1;have Jn:=hH.m1;obtain⟨_,_,_,_,c4,_⟩:=h.cells;have Vt:w.r 24 1 S.vS n S.sv:=by have:=h.srow;rwa [hH.ns] at this
 obtain⟨aoS,cS,Pp⟩:=bJ Vt;rw[Pp] at c4;have Js:=h.lt;obtain⟨Z,hZ⟩:=zE (refB T n m (n+2) (ψ n 0));rw[<-hZ];have HZ:=zh hZ;have WK:=zh Pp;clear h hH Vt Pp hZ;unfold bH;go_in;go_upto_region 3 with fail
 have D2:zH (FarS w w.t n (ψ n 0) (κ w (Ω (dP (ψ n 0)).toArray 3))):=zh ⟨bA _ _ _ rfl,bR,zs,Ξ w _⟩;clear GZ c4 Js;generalize w.alloc (Ω (dP (ψ n 0)).toArray 3)=w1 at D2 ⊢;generalize w.heap.size=gf at D2 ⊢;go_wp2_with fail;go_loopw [5] (λs5 wr=>∃ (r:Nat) (far:List Int),s5=ι r/\r<=n+2/\FarS w gf n far wr/\refB T n m (n+2-r) far=Z/\UpB far (r*(n*m))) (λs5 _=>n+2-(ϑ s5).toNat)
 case atStart=>exact⟨0,ψ n 0,rfl,zo,D2.o,HZ.o.symm,λj=>zg⟩
 case round=>
  clear D2;obtain⟨r,far,rfl,hr,Ji,O8,Ii⟩:=hrel;have Fk:=zh Ji;have A0:=zh O8;have IJ:=zh Ii;have ju:=mF n;have yw:=mF r;have P7:n*m<=201*50000:=Nat.mul_le_mul YS.2 Jn;clear Ji O8 Ii;by_cases Qh:r<=n+1
  . have zr:(r:Int)<=(n:Int)+1:=zo
    have hrnm:r*(n*m)<=202*(201*50000):=Nat.mul_le_mul zo P7;obtain⟨cr,jp⟩:=zE (r*(n*m));rw[<-jp] at IJ hrnm;have N5:=zh jp;clear jp;go_wp2_with fail;go_loopw [6,7] (λs6 s7 wr=>∃ (i:Nat) (g:Bool),s7=ι i/\s6=φ g/\i<=n/\FarS w gf n (kO T m i far) wr/\(g=true↔kO T m i far≠far)/\UpB (kO T m i far) (cr+i*m)) (λ_ s7 _=>n-(ϑ s7).toNat)
    case atStart=>exact⟨0,false,rfl,rfl,zo,Fk.o,by simp[kO],by rw[Nat.zero_mul];exact IJ.o⟩
    case round=>
     clear Fk;obtain⟨i,g,rfl,rfl,hi,As,hg,AK⟩:=hrel;have JP:=zh As;have HG:=zh hg;have TG:=zh AK;have au:=mF i;clear hg AK As;by_cases YP:i<n
     . have zi:=zt i n
       have him:i*m<=201*50000:=Nat.mul_le_mul zo Jn;obtain⟨ci,GA⟩:=zE (i*m);rw[<-GA] at TG him;have wE:=zh GA;clear GA;go_wp2_with fail;go_loopw [6,8] (λs6 s8 wr=>∃ (k:Nat) (g:Bool) (f:List Int),s8=ι k/\s6=φ g/\k<=m/\f=zeH T i k (kO T m i far)/\FarS w gf n f wr/\(g=true↔f≠far)/\UpB f (cr+ci+k)) (λ_ s8 _=>m-(ϑ s8).toNat)
       case atStart=>exact⟨0,g,_,rfl,rfl,zo,rfl,JP.o,HG.o,TG.o⟩
       case round=>
        clear JP HG TG;obtain⟨k,g,f,rfl,rfl,hk,hf,As,hg,AK⟩:=hrel;have HFE:=zh hf;have JP:=zh As;have HG:=zh hg;have TG:=zh AK;have LE:zH (LeF far f):=zh (by rw[hf];exact (zh9 T m i far).trans (row_le T i k _));have hr:=H.o.below As.w;obtain⟨_,_,_,c3,_,c5,_⟩:=hr.cells;have Js:=hr.lt;have ym:dA wr S.vC D.cU:=hr.crow;have Jr:=mF k;clear hf hg;by_cases XR:k<m
        . obtain⟨gC,capC,eC,lgC,cgC⟩:=rE ym (i:=k) (by rw[HH.o.nm];exact XR)
          rw[eC,HH.o.nm] at c3;have zk:=zt k m
          have Cj:wr.r 24 1 S.vG n S.gv:=by have:=hr.grow;rwa [HH.o.ng] at this
          obtain⟨gG,capG,u,eG,lgG,hu,cgG⟩:=rB Cj YP;rw[eG] at c5;have ox:=hr.gli i u hu;have Hb:I (χ D.gO i [])=m:=HH.o.rows _ (by
           rw[zLf,zLe (by rw[HH.o.ng];exact YP)];simp)
          obtain⟨gu,capu,eu,lgu,cgu⟩:=rE ox (i:=k) zo;rw[Hb] at eu;rw[eu] at cgG;have Rm:∀ (l:List Int),I l=m->χ l k (-1)=χ l k 0:=λl hl=>by
           simp_all
          have jj:toO T i k=χ (χ D.gO i []) k 0:=by
           rw[<-Rm _ Hb];unfold toO;rw[HH.o.g]
          rw[<-jj] at cgu;have Vn:χ T.cU k 0=χ D.cU k 0:=by rw[HH.o.c]
          have Qo:zH (zeH T i (k+1) (kO T m i far)=vA T f i k):=zh (by rw[HFE.o];rfl);have BG:=HH.o.to' i k;have WL:=zh (HH.o.wid i k);have uj:zH (dO T f i k=if 0<=ruO T (toO T i k) then widO T k-1 else widO T k+χ f (toO T i k).toNat 0):=zh rfl;have xe:=zh (λh1 h2=>relax_ne (T:=T) (i:=i) (k:=k) LE.o (by rw[As.l];exact YP) h1 h2);have Ee:=zh (λh=>relax_eq (T:=T) (far:=f) (i:=i) (k:=k) h);clear hr ym eC Cj eG hu ox Hb eu jj Rm AK As
          generalize toO T i k=tt at cgu BG WL uj xe Ee;by_cases ST:tt<0
          . have HN:=zh (Ee.o (.inl ST))
            go_wp2_with fail;go_roundw
            case rel=>exact⟨k+1,g,f,by go_num,rfl,zo,by rw[Qo.o,HN.o],JP.o,HG.o,TG.o.mono zo⟩
            case measure=>exact zY
          obtain⟨t,rfl⟩:=Int.eq_ofNat_of_zero_le (Int.not_lt.1 ST)
          have DO:t<n:=zo
          obtain⟨Rz,hw2',NN⟩:=WL.o zo;have IK:=zh (zi8 (χ D.cU k 0) wr);rw[<-Vn,Rz] at IK;rw[<-Vn] at cgC;obtain⟨rs1,rs2⟩:=HH.o.s1 t DO;have Uj:=zh (zcQ tb D S wr (H.o.below JP.o.w) t (by rw[HH.o.ns];omega) rs1 rs2);rw[HH.o.rU t DO] at Uj;have DI:=HH.o.rl t DO;clear rs1 rs2 Vn Rz WL ST;generalize ruO T (t:Int)=ru at Uj uj DI;rw[Int.toNat_natCast] at uj;generalize widO T k=wd at IK uj hw2' NN;generalize T.cU.getD k 0=ck at IK cgC
          have hwd1:=lM (n:=wd-1);unfold bH at Uj;go_upto_region 18 with (first|(go_at_call 79;refine IK.o.mono ?_;rintro e' w4 ⟨rfl,rfl⟩)|(go_at_call 80;refine Uj.o.mono ?_;rintro e' w5 ⟨rfl,Qn⟩;have Y7:=zh Qn;clear Qn))
          have VV:=zh (JP.o.later Y7.o);have cfi:=VV.o.cell YP;have cft:=VV.o.cell DO;have ffi:=bN w5 gf i _ _ VV.o.b;have xg:=TG.o i;have UV:=TG.o t;clear c3 c5 cgC cgG cgu Js lgC lgG lgu Y7 JP;obtain⟨fi,Cf⟩:=zE (χ f i 0);obtain⟨ft,Bq⟩:=zE (χ f t 0);rw[<-Cf] at cfi xg;rw[<-Bq] at cft uj UV;have Jt:=zh Cf;clear Cf Bq;by_cases Cs:ru<0
          . have hd:dO T f i k=wd+ft:=by rw[uj.o,zN zo]
            have hwd2:=lM (n:=wd+ft);by_cases GM:fi<wd+ft
            . have QL:=zh (xe.o zo (by rw[<-Jt.o,hd];exact GM))
              rw[hd] at QL;have HN:zH (f.set i (wd+ft)=zeH T i (k+1) (kO T m i far)):=zh (by rw[Qo.o,QL.o.1]);have Q4:zH (f.set i (wd+ft)≠far):=zh (by rw[<-QL.o.1];exact QL.o.2);have A3:zH (UpB (f.set i (wd+ft)) (cr+ci+(k+1))):=zh (TG.o.set zo zo);have VC:=zh (VV.o.set i (wd+ft));exact zzBc
            exact zzAp
          have hd:dO T f i k=wd-1:=by rw[uj.o,zP zo]
          by_cases GM:fi<wd-1
          . have QL:=zh (xe.o zo (by rw[<-Jt.o,hd];exact GM))
            rw[hd] at QL;have HN:zH (f.set i (wd-1)=zeH T i (k+1) (kO T m i far)):=zh (by rw[Qo.o,QL.o.1]);have Q4:zH (f.set i (wd-1)≠far):=zh (by rw[<-QL.o.1];exact QL.o.2);have A3:zH (UpB (f.set i (wd-1)) (cr+ci+(k+1))):=zh (TG.o.set zo zo);have VC:=zh (VV.o.set i (wd-1));exact zzBc
          exact zzAp
        have zk:=zn k m
        obtain⟨aoC,capC,eC⟩:=ym.form;rw[eC,HH.o.nm] at c3;have pg:k=m:=zo
        have HN:zH (f=kO T m (i+1) far):=zh (by rw[HFE.o,pg];rfl);have y7:cr+ci+k<=cr+(i+1)*m:=by rw[Nat.succ_mul,<-wE.o];omega
        have ug:=zh y7;clear hr ym eC AK As pg y7;go_wp2_with fail;go_roundw
        case rel=>exact⟨i+1,g,by go_num,rfl,zo,by rw[<-HN.o];exact JP.o,by rw[<-HN.o];exact HG.o,by rw[<-HN.o];exact TG.o.mono ug.o⟩
        case measure=>exact zY
     have zi:=zn i n
     have P0:i=n:=zo
     subst P0;cases g with
     | false=>
      have lz:kO T m i far=far:=Classical.byContradiction λh=>by have:=HG.o.2 h;cases this
      have HB:zH (sC T far i 0 0+1=Z):=zh (by
       have e:i+2-r=(i+1-r)+1:=zo
       rw[<-A0.o,e,refB,zP lz])
      rw[lz] at JP;clear lz HG TG A0 N5;go_wp2_with fail;go_loopw [13,14] (λs13 s14 wr=>∃ (j:Nat) (b:Int),s14=ι j/\s13=ι b/\j<=i/\sC T far (i-j) j b=sC T far i 0 0/\FarS w gf i far wr/\0<=b/\b<=100000000000) (λ_ s14 _=>i-(ϑ s14).toNat)
      case atStart=>exact⟨0,0,rfl,rfl,zo,rfl,JP.o,zo,zo⟩
      case round=>
       clear JP;obtain⟨j,b,rfl,rfl,hj,KO,As,V3,Hk⟩:=hrel;have JL:=zh KO;have JP:=zh As;clear KO As;by_cases xi:j<i
       . have zj:=zt j i
         have SW:=mF j;obtain⟨rs1,rs2⟩:=HH.o.s1 j xi;have Uj:=zh (zcQ tb D S wr (H.o.below JP.o.w) j (by rw[HH.o.ns];exact xi) rs1 rs2);rw[HH.o.rU j xi] at Uj;have Hl:zH (sC T far (i-j) j b=sC T far (i-(j+1)) (j+1) (if 0<j/\ruO T (j:Int)<0 then b else max b (χ far j 0))):=zh (by
          have e:i-j=(i-(j+1))+1:=zo
          rw[e,sC];rfl)
         have Ii:=IJ.o j;clear rs1 rs2;generalize ruO T (j:Int)=ru at Uj Hl;unfold bH at Uj;go_upto_region 29 with (go_at_call 80;refine Uj.o.mono ?_;rintro e' w5 ⟨rfl,Qn⟩;have Y7:=zh Qn;clear Qn)
         have VV:=zh (JP.o.later Y7.o);have cfj:=VV.o.cell xi;clear Y7 JP;generalize far.getD j 0=fj at cfj Hl Ii;rw[JL.o] at Hl;by_cases ly:0<j/\ru<0
         . have HN:zH (sC T far (i-(j+1)) (j+1) b=sC T far i 0 0):=zh (by rw[Hl.o,zP ly])
           have z0:((j:Int)==0)=false:=beq_eq_false_iff_ne.2 zo;have z1:¬ 0<=ru:=zo
           clear Hl JL Ii ly;exact zzBO
         have XS:j=0\/(j≠0/\0<=ru):=zo
         by_cases GM:b<fj
         . have HN:zH (sC T far (i-(j+1)) (j+1) fj=sC T far i 0 0):=zh (by rw[Hl.o,zN ly,show max b fj=fj by omega])
           clear Hl JL ly;have Xl:0<=fj/\fj<=100000000000:=zo
           clear Ii
           rcases XS with h0|⟨h0,h1⟩
           . have z0:((j:Int)==0)=true:=by simp[h0]
             exact zzCD
           have z0:((j:Int)==0)=false:=beq_eq_false_iff_ne.2 zo
           exact zzCD
         have HN:zH (sC T far (i-(j+1)) (j+1) b=sC T far i 0 0):=zh (by rw[Hl.o,zN ly,show max b fj=b by omega])
         clear Hl JL Ii ly
         rcases XS with h0|⟨h0,h1⟩
         . have z0:((j:Int)==0)=true:=by simp[h0]
           clear h0;exact zzBO
         have z0:((j:Int)==0)=false:=beq_eq_false_iff_ne.2 zo
         clear h0;exact zzBO
       . have zj:=zn j i
         have HE:zH (b+1=Z):=zh (by
          have hb:=JL.o;rw[show i-j=0 by omega,sC] at hb;rw[hb];exact HB.o)
         have RD:=lM (n:=b+1);clear JL;go_wp2;go_ret;exact⟨by rw[<-HE.o];rfl,JP.o.w⟩
     | true=>
      have lz:kO T m i far≠far:=HG.o.1 rfl;have HN:zH (refB T i m (i+2-(r+1)) (kO T m i far)=Z):=zh (by
       have e:i+2-r=(i+2-(r+1))+1:=zo
       rw[<-A0.o,e,refB,zN lz])
      have A3:zH (UpB (kO T m i far) ((r+1)*(i*m))):=zh (TG.o.mono (by rw[Nat.succ_mul,<-N5.o];omega));clear lz HG TG A0 N5;go_wp2;go_roundw
      case rel=>exact⟨r+1,_,by go_num,zo,JP.o,HN.o,A3.o⟩
      case measure=>exact zY
  have zr:¬ (r:Int)<=(n:Int)+1:=zo
  have HE:zH (-1=Z):=zh (by rw[<-A0.o,show n+2-r=0 by omega];rfl);clear A0 IJ;go_wp2;go_ret;exact⟨by rw[<-HE.o];rfl,Fk.o.w⟩
