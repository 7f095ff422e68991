/- Part of a proof. No condition. -/
import Derived.Deep.CutBlock
import Derived.Deep.DeepCutAuto
import Derived.Test.YtmfnmkccbldfpaaGreatDoorS05
set_option linter.unusedVariables false
set_option linter.unusedSimpArgs false
set_option maxRecDepth 100000
set_option maxHeartbeats 8000000
namespace Go.Proofs.YtmfnmkccbldfpaaGreatDoor
theorem zzC1 {p:Prop} (h:p:=by have:=VB.o.1;omega):p:=h
theorem zzC0 {p:Prop} (h:p:=by
 go_wp2;go_meet
 case rel=>exact⟨k,rfl,by rw[<-HE.o];grind [kH],HS.o.drewN _⟩):p:=h
theorem zzCz {p:Prop} (h:p:=by
 go_wp2;go_meet
 case rel=>exact⟨k,rfl,by rw[<-HE.o];grind [jP],HS.o.drewN _⟩):p:=h
theorem zzCv {p:Prop} (h:p:=by rw[Pu.o,<-Hp.o,<-CL.o,<-mh.o]):p:=h
theorem zzBk {p:Prop} (h:p:=by have:=Q5.o.1;omega):p:=h
theorem zzBW {p:Prop} (h:p:=by
 have Kq:decide ((k:Int)<=(jk:Int))=false:=zx
 go_wp2;go_quiet (fail);go_wp2;go_meet
 case rel=>exact⟨k,rfl,by rw[<-HE.o];exact (kH _ dk jk k (.inl Hf)).symm,HS.o.drewN _⟩):p:=h
theorem zzBV {p:Prop} (h:p:=by
 have Kq:decide ((il:Int)<=(k:Int))=false:=zx
 go_wp2;go_quiet (fail);go_wp2;go_meet
 case rel=>exact⟨k,rfl,by rw[<-HE.o];exact (jP _ dk il k (.inl Hf)).symm,HS.o.drewN _⟩):p:=h
theorem zzBN {p:Prop} (h:p:=by
 go_wp2;go_quiet ((go_at_call 126;exact Calls.quiet_of_same (fM _ _ _)));go_wp2;go_meet
 case rel=>exact⟨k,rfl,by rw[<-HE.o];exact (kH _ dk jk k (.inr (by simp[hl]))).symm,HS.o.drewN _⟩):p:=h
theorem zzBM {p:Prop} (h:p:=by
 go_wp2;go_quiet ((go_at_call 126;exact Calls.quiet_of_same (fM _ _ _)));go_wp2;go_meet
 case rel=>exact⟨k,rfl,by rw[<-HE.o];exact (jP _ dk il k (.inr (by simp[hl]))).symm,HS.o.drewN _⟩):p:=h
theorem zzA7 {p:Prop} (h:p:=by
 go_wp2;go_quiet ((go_at_call 126;exact Calls.quiet_of_same (fM _ _ _)));go_wp2;go_roundw
 case rel=>exact⟨k+1,zr,⟨zo,zo⟩,by rw[<-HE.o];exact (za6 _ dk jk k Hf (by simp[hl])).symm,HS.o.drewN _⟩
 case measure=>exact zY):p:=h
theorem zzAw {p:Prop} (h:p:=by
 go_wp2;go_quiet ((go_at_call 126;exact Calls.quiet_of_same (fM _ _ _)));go_wp2;go_roundw
 case rel=>exact⟨k-1,by (first|go_num|(congr 1;omega)),⟨zo,zo⟩,by rw[<-HE.o];exact (uK _ dk il k Hf zo (by simp[hl])).symm,HS.o.drewN _⟩
 case measure=>exact zY):p:=h
theorem zzAu {p:Prop} (h:p:=by
 by_cases heq:a=pv
 . subst heq
   clear c1 Ya
   go_region
   all_goals (go_wp2;go_meet)
   case rel=>rw[CL.o];exact (VB.o.drewN _).swap a a zo zo
 have P5:¬ pv=a:=λe=>heq e.symm
 go_region
 all_goals (go_wp2;go_meet)
 case rel=>rw[CL.o];exact (VB.o.drewN _).swap a pv zo zo):p:=h
theorem zzAr {p:Prop} (h:p:=by
 have Pq:¬ (2:Int)<=(bi:Int):=zo
 have HF:zH (Sort.fixUp ltInt b i dF=dF):=zh (by unfold Sort.fixUp;rw[zN zo]);clear h2;generalize Sort.fixUp ltInt b i dF=dG at*;go_wp2;go_roundw
 case rel=>exact⟨i,jk+1,_,rfl,by go_num,zo,zo,zo,by rw[N6.o,HF.o],bz⟩
 case measure=>exact zY):p:=h
theorem zzAM {p:Prop} (h:p:=by
 have c0:=JV.o.2.1.cell il (by have:=JV.o.1;omega);have c1:=JV.o.2.1.cell jl (by have:=JV.o.1;omega);have Xl:=JV.o.2.1.free il;have Ya:=JV.o.2.1.free jl;go_cut [] (λwx=>jW blk n r w dn wx)
 case first=>
  by_cases heq:il=jl
  . subst heq
    clear c1 Ya
    go_region
    all_goals (go_wp2;go_meet)
    case rel=>rw[FZ.o];exact (JV.o.drewN _).swap il il zo zo
  have P5:¬ jl=il:=λe=>heq e.symm
  go_region
  all_goals (go_wp2;go_meet)
  case rel=>rw[FZ.o];exact (JV.o.drewN _).swap il jl zo zo
 rotate_left 0
 case rest=>
  have WE:=zh hcut;clear hcut c0 c1 Xl Ya;go_wp2;go_roundw
  case rel=>exact⟨il+1,jl-1,dn,by go_num,by congr 1;omega,zo,zo,zo,by rw[<-D1.o,uz.o,zN U2,FZ.o],WE.o⟩
  case measure=>exact zY):p:=h
theorem zzAA {p:Prop} (h:p:=by
 have Pq:(2:Int)<=(bi:Int):=zo
 have HF:zH (Sort.fixUp ltInt b i dF=Sort.shiftUp ltInt b (i+1) dF):=zh (by unfold Sort.fixUp;rw[zP zo]);clear h2;generalize Sort.fixUp ltInt b i dF=dG at*;go_wp2;go_loopw [10] (λs wr=>∃ (k:Nat) (dl:Array Int),s=.int .i64 k/\i<k/\k<=b/\Sort.shiftUp ltInt b k dl=dG/\jW blk n r w dl wr) (λs _=>b-(RowKit.intOf s).toNat)
 case atStart=>exact⟨i+1,dF,by go_num,zo,zo,HF.o.symm,bz⟩
 case round=>
  obtain⟨k,dl,rfl,Og,Dt,hE,hS⟩:=hrel;have HE:=zh hE;have HS:=zh hS;clear hE hS;by_cases U6:k<b
  . have NV:=zt k b
    obtain⟨q,hq⟩:=zE (k-1);have Xz:IntKind.i64.wrap ((k:Int)-1)=(q:Int):=by rw[lM];omega
    have Au:=zt k n
    have BC:=zt q n
    have Qg:=zby b k dl U6;have Hh:=mN b k dl;rw[<-hq] at Qg Hh;have VW:=zh Qg;have Hl:=zh Hh;have hqk:q<k:=zo
    have c0:=HS.o.2.1.cell k (by have:=HS.o.1;omega);have c1:=HS.o.2.1.cell q (by have:=HS.o.1;omega);clear hq Qg Hh;cases hl:ltInt dl[k]! dl[q]! with
    | false=>
     go_wp2;go_quiet ((go_at_call 126;exact Calls.quiet_of_same (fM _ _ _)));go_wp2;go_roundw
     case rel=>exact⟨i,jk+1,_,rfl,by go_num,zo,zo,zo,by rw[N6.o,<-HE.o,Hl.o (.inr hl)],HS.o.drewN _⟩
     case measure=>exact zY
    | true=>
     go_wp2;go_quiet ((go_at_call 126;exact Calls.quiet_of_same (fM _ _ _)));have Xc:=zh (HS.o.drewN nq);generalize wr.drewN nq=wq at Xc ⊢;clear c0 c1 HS;have c0:=Xc.o.2.1.cell k (by have:=Xc.o.1;omega);have c1:=Xc.o.2.1.cell q (by have:=Xc.o.1;omega);have Xl:=Xc.o.2.1.free k;have Ya:=Xc.o.2.1.free q;go_wp2
     go_region
     all_goals go_wp2
     all_goals go_roundw
     case rel=>exact⟨k+1,swp dl k q,by go_num,zo,zo,by rw[<-HE.o,VW.o hl],(Xc.o.drewN _).swap k q zo zo⟩
     case measure=>exact zY
  have NV:=zn k b
  go_wp2;go_roundw
  case rel=>exact⟨i,jk+1,_,rfl,by go_num,zo,zo,zo,by rw[N6.o,<-HE.o,mN b k dl (.inl zo)],HS.o⟩
  case measure=>exact zY):p:=h
variable {w:ω} {b:Nat}
section
open Go.RowKit Go.Lib Tryz
open Go.Sort (swp ltInt)
theorem za6 (p:Int->Bool) (d:Array Int) (j i:Nat) (h:i<=j) (hp:p d[i]! =true):Sort.scanUp p d j i=Sort.scanUp p d j (i+1):=by
 grind [Sort.scanUp]
theorem kH (p:Int->Bool) (d:Array Int) (j i:Nat) (h:¬ i<=j\/p d[i]! =false):Sort.scanUp p d j i=i:=by
 grind [Sort.scanUp]
theorem uK (p:Int->Bool) (d:Array Int) (i j:Nat) (h:i<=j) (hj:0<j) (hp:p d[j]! =true):Sort.scanDown p d i j=Sort.scanDown p d i (j-1):=by
 obtain⟨j,rfl⟩:∃ k,j=k+1:=⟨j-1,zo⟩
 grind [Sort.scanDown]
theorem jP (p:Int->Bool) (d:Array Int) (i j:Nat) (h:¬ i<=j\/p d[j]! =false):Sort.scanDown p d i j=j:=by
 cases j with
 | zero=>rfl
 | succ j=>
  grind [Sort.scanDown]
theorem vY (p:Int->Bool) (d:Array Int) (j:Nat):∀ (n i:Nat),j+1-i<=n->i<=Sort.scanUp p d j i/\(Sort.scanUp p d j i<=j+1\/Sort.scanUp p d j i=i):=by
 intro n
 induction n with
 | zero=>grind [kH]
 | succ n ih=>
  grind [za6,kH]
theorem qU (p:Int->Bool) (d:Array Int) (i:Nat):∀ (j:Nat),Sort.scanDown p d i j<=j/\(i<=Sort.scanDown p d i j+1\/Sort.scanDown p d i j=j):=by
 intro j
 induction j with
 | zero=>exact⟨bR,.inr rfl⟩
 | succ j ih=>
  grind [uK,jP]
theorem zgP (a i j i2 j2:Nat) (d:Array Int) (hi:i2=Sort.scanUp (λx=>ltInt x d[a]!) d j i) (hj:j2=Sort.scanDown (λx=> !ltInt x d[a]!) d i2 j) (Bs:0<i):
 Sort.partLoop ltInt a i j d=if j2<i2 then (j2,d) else Sort.partLoop ltInt a (i2+1) (j2-1) (swp d i2 j2):=by
 have:=vY (λx=>ltInt x d[a]!) d j _ i bR
 grind [qU,Sort.partLoop]
theorem zeB (a i j i2 j2:Nat) (d:Array Int) (hi:i2=Sort.scanUp (λx=> !ltInt d[a]! x) d j i) (hj:j2=Sort.scanDown (λx=>ltInt d[a]! x) d i2 j) (Bs:0<i):
 Sort.partEqLoop ltInt a i j d=if j2<i2 then (i2,d) else Sort.partEqLoop ltInt a (i2+1) (j2-1) (swp d i2 j2):=by
 have:=vY (λx=> !ltInt d[a]! x) d j _ i bR
 grind [qU,Sort.partEqLoop]
theorem zfK (a b pv i2 j2:Nat) (d d1:Array Int) (hd:d1=swp d a pv) (hi:i2=Sort.scanUp (λx=>ltInt x d1[a]!) d1 (b-1) (a+1)) (hj:j2=Sort.scanDown (λx=> !ltInt x d1[a]!) d1 i2 (b-1)):
 Sort.partition ltInt d a b pv=if j2<i2 then (j2,true,swp d1 j2 a) else
  ((Sort.partLoop ltInt a (i2+1) (j2-1) (swp d1 i2 j2)).1,false,swp (Sort.partLoop ltInt a (i2+1) (j2-1) (swp d1 i2 j2)).2 (Sort.partLoop ltInt a (i2+1) (j2-1) (swp d1 i2 j2)).1 a):=by
 grind [Sort.partition]
def PtO (PT:Nat×Bool×Array Int) (blk n:Nat) (r:ζ) (w:ω) (e:Ending) (w':ω):Prop:=e=ρ (ϕ #[ι PT.1,φ PT.2.1])/\jW blk n r w PT.2.2 w'
theorem zeE (blk n cap a b pv:Nat) (r:ζ) (d:Array Int) (w:ω) (hR:eP w blk d r) (hn:d.size=n) (PN:a<=pv) (Vr:pv<b) (hb:b<=n) (Hv:n<1000000000):
 Γ 139 #[σ blk n cap,ι a,ι b,ι pv] w (PtO (Sort.partition ltInt d a b pv) blk n r w):=by
 have:(a:Int)<b:=zo
 have:(pv:Int)<n:=zo
 have:(a:Int)<=pv:=zo
 have:(pv:Int)<b:=zo
 have VB:=zh (jW.refl (w:=w) hR hn);clear hR hn;obtain⟨PT,UE⟩:=zE (Sort.partition ltInt d a b pv);have Ju:=zh UE;rw[<-UE];clear UE;go_in;obtain⟨d1,KU⟩:=zE (swp d a pv);have CL:=zh KU;clear KU;go_upto_region 1 with fail
 have c0:=VB.o.2.1.cell a zzC1;have c1:=VB.o.2.1.cell pv zzC1;have Xl:=VB.o.2.1.free a;have Ya:=VB.o.2.1.free pv;go_cut [] (λwx=>jW blk n r w d1 wx)
 case first=>
  exact zzAu
 rotate_left 0
 case rest=>
  have YE:=zh hcut;clear hcut c0 c1 Xl Ya;go_upto_region 2 with fail
  go_cut [10,11] (λXJ VT wx=>∃ i1 j1:Nat,XJ=ι i1/\VT=ι j1/\i1=a+1/\j1+1=b/\wx=wc)
  case first=>
   go_wp2;go_meet
   case rel=>exact⟨a+1,b-1,by go_num,by congr 1;omega,rfl,zo,rfl⟩
  case rest=>
   obtain⟨i1,j1,rfl,rfl,TW,Ds,rfl⟩:=hcut
   go_upto_block 0 with fail
   go_cut [10] (λs wx=>∃ k:Nat,s=ι k/\k=Sort.scanUp (λx=>ltInt x d1[a]!) d1 j1 i1/\jW blk n r w d1 wx)
   case first=>
    go_wp2;go_loopw [10] (λs wr=>∃ k:Nat,s=ι k/\(i1<=k/\k<=j1+2)/\Sort.scanUp (λx=>ltInt x d1[a]!) d1 j1 k=Sort.scanUp (λx=>ltInt x d1[a]!) d1 j1 i1/\jW blk n r w d1 wr) (λs _=>(j1+2)-(ϑ s).toNat)
    case atStart=>exact⟨i1,rfl,⟨zo,zo⟩,rfl,YE.o⟩
    case round=>
     obtain⟨k,rfl,GU,hE,hS⟩:=hrel;have HE:=zh hE;have HS:=zh hS;clear hE hS;by_cases Hf:k<=j1
     . have hz:=zu k j1
       have Kq:decide ((k:Int)<=(j1:Int))=true:=by simpa using hz
       have Au:=zt k n
       have Jf:=zt a n
       have c0:=HS.o.2.1.cell k zzAS;have c1:=HS.o.2.1.cell a zzAS;cases hl:ltInt d1[k]! d1[a]! with
       | true=>
        go_wp2;go_quiet ((go_at_call 126;exact Calls.quiet_of_same (fM _ _ _)));go_wp2;go_roundw
        case rel=>exact⟨k+1,zr,⟨zo,zo⟩,by rw[<-HE.o];grind [za6],HS.o.drewN _⟩
        case measure=>exact zY
       | false=>
        go_wp2;go_quiet ((go_at_call 126;exact Calls.quiet_of_same (fM _ _ _)));exact zzC0
     . have Kq:decide ((k:Int)<=(j1:Int))=false:=zx
       go_wp2;go_quiet (fail);exact zzC0
   case rest=>
    obtain⟨i2,rfl,Yj,hS⟩:=hcut;have ZL:=vY (λx=>ltInt x d1[a]!) d1 j1 _ i1 bR;rw[<-Yj] at ZL;have Hi2:=zh Yj;clear Yj;have QS:=zh hS;clear hS
    go_upto_block 2 with fail
    go_cut [11] (λs wx=>∃ k:Nat,s=ι k/\k=Sort.scanDown (λx=> !ltInt x d1[a]!) d1 i2 j1/\jW blk n r w d1 wx)
    case first=>
     go_wp2;go_loopw [11] (λs wr=>∃ k:Nat,s=ι k/\(k<=j1/\i2<=k+2)/\Sort.scanDown (λx=> !ltInt x d1[a]!) d1 i2 k=Sort.scanDown (λx=> !ltInt x d1[a]!) d1 i2 j1/\jW blk n r w d1 wr) (λs _=>(ϑ s).toNat)
     case atStart=>exact⟨j1,rfl,⟨zo,zo⟩,rfl,QS.o⟩
     case round=>
      obtain⟨k,rfl,GU,hE,hS⟩:=hrel;have HE:=zh hE;have HS:=zh hS;clear hE hS;by_cases Hf:i2<=k
      . have hz:=zu i2 k
        have Kq:decide ((i2:Int)<=(k:Int))=true:=by simpa using hz
        have Au:=zt k n
        have Jf:=zt a n
        have c0:=HS.o.2.1.cell k zzAS;have c1:=HS.o.2.1.cell a zzAS;cases hl:ltInt d1[k]! d1[a]! with
        | false=>
         go_wp2;go_quiet ((go_at_call 126;exact Calls.quiet_of_same (fM _ _ _)));go_wp2;go_roundw
         case rel=>exact⟨k-1,by (first|go_num|(congr 1;omega)),⟨zo,zo⟩,by rw[<-HE.o];grind [uK],HS.o.drewN _⟩
         case measure=>exact zY
        | true=>
         go_wp2;go_quiet ((go_at_call 126;exact Calls.quiet_of_same (fM _ _ _)));exact zzCz
      . have Kq:decide ((i2:Int)<=(k:Int))=false:=zx
        go_wp2;go_quiet (fail);exact zzCz
    case rest=>
     obtain⟨j2,rfl,Pf,hS⟩:=hcut;have ZM:=qU (λx=> !ltInt x d1[a]!) d1 i2 j1;rw[<-Pf] at ZM;have Hj2:=zh Pf;clear Pf;have Q5:=zh hS;clear hS;have TJ:j1=b-1:=zo
     have sm:=zh (zfK a b pv i2 j2 d d1 CL.o (by rw[Hi2.o,TJ,TW]) (by rw[Hj2.o,TJ]));clear TJ;by_cases GM:j2<i2
     . have hz:=zt j2 i2
       obtain⟨d2,tX⟩:=zE (swp d1 j2 a);have FY:=zh tX;clear tX;go_upto_region 8 with fail;have c0:=Q5.o.2.1.cell j2 zzBk;have c1:=Q5.o.2.1.cell a zzBk;have Xl:=Q5.o.2.1.free j2;have Ya:=Q5.o.2.1.free a;go_cut [] (λwx=>jW blk n r w d2 wx)
       case first=>
        by_cases heq:j2=a
        . subst heq
          clear c1 Ya
          go_region
          all_goals (go_wp2;go_meet)
          case rel=>rw[FY.o];exact (Q5.o.drewN _).swap j2 j2 zo zo
        have P5:¬ a=j2:=λe=>heq e.symm
        go_region
        all_goals (go_wp2;go_meet)
        case rel=>rw[FY.o];exact (Q5.o.drewN _).swap j2 a zo zo
       rotate_left 0
       case rest=>
        have vk:=zh hcut;clear hcut c0 c1 Xl Ya;go_wp2
        go_ret2
        unfold PtO;rw[Ju.o,sm.o,zP GM,<-FY.o];exact⟨rfl,vk.o⟩
     have hz:=zn j2 i2
     obtain⟨d2,tX⟩:=zE (swp d1 i2 j2);have FY:=zh tX;clear tX;go_upto_region 10 with fail;have c0:=Q5.o.2.1.cell i2 zzBk;have c1:=Q5.o.2.1.cell j2 zzBk;have Xl:=Q5.o.2.1.free i2;have Ya:=Q5.o.2.1.free j2;go_cut [] (λwx=>jW blk n r w d2 wx)
     case first=>
      by_cases heq:i2=j2
      . subst heq
        clear c1 Ya
        go_region
        all_goals (go_wp2;go_meet)
        case rel=>rw[FY.o];exact (Q5.o.drewN _).swap i2 i2 zo zo
      have P5:¬ j2=i2:=λe=>heq e.symm
      go_region
      all_goals (go_wp2;go_meet)
      case rel=>rw[FY.o];exact (Q5.o.drewN _).swap i2 j2 zo zo
     rotate_left 0
     case rest=>
      have vk:=zh hcut;clear hcut c0 c1 Xl Ya;go_upto_region 11 with fail
      go_cut [10] (λXJ wx=>∃ i3:Nat,XJ=ι i3/\i3=i2+1/\wx=wc)
      case first=>
       go_wp2;go_meet;simp
      case rest=>
       obtain⟨i3,rfl,Bt,rfl⟩:=hcut;have Ly:=zh Bt;have:i3<=i2+1:=zo
       have:i2+1<=i3:=zo
       clear Bt;go_upto_region 12 with fail
       go_cut [11] (λVT wx=>∃ j3:Nat,VT=ι j3/\j3+1=j2/\wx=wc)
       case first=>
        go_wp2;go_meet
        case rel=>exact⟨j2-1,zg,zo,rfl⟩
       case rest=>
        obtain⟨j3,rfl,Iv,rfl⟩:=hcut;have:j3+1<=j2:=zo
        have:j2<=j3+1:=zo
        clear Iv
        go_upto_block 4 with fail
        go_cut [10,11] (λ_ VT wx=>∃ (j:Nat) (dk:Array Int),VT=ι j/\j<b/\Sort.partLoop ltInt a i3 j3 d2=(j,dk)/\jW blk n r w dk wx)
        case first=>
         go_wp2;go_loopw [10,11] (λXJ VT wr=>∃ (i j:Nat) (dk:Array Int),XJ=ι i/\VT=ι j/\a<i/\j<b/\i<=j+2/\Sort.partLoop ltInt a i j dk=Sort.partLoop ltInt a i3 j3 d2/\jW blk n r w dk wr) (λXJ VT _=>(ϑ VT).toNat+2-(ϑ XJ).toNat)
         case atStart=>exact⟨i3,j3,d2,rfl,rfl,zo,zo,zo,rfl,vk.o⟩
         case round=>
          obtain⟨ik,jk,dk,rfl,rfl,GO,hjk,KY,hE,hS⟩:=hrel;have j9:=zh hS;have D1:=zh hE;clear hS hE
          go_upto_block 6 with fail
          go_cut [10] (λs wx=>∃ k:Nat,s=ι k/\k=Sort.scanUp (λx=>ltInt x dk[a]!) dk jk ik/\jW blk n r w dk wx)
          case first=>
           go_wp2;go_loopw [10] (λs wr=>∃ k:Nat,s=ι k/\(ik<=k/\k<=jk+2)/\Sort.scanUp (λx=>ltInt x dk[a]!) dk jk k=Sort.scanUp (λx=>ltInt x dk[a]!) dk jk ik/\jW blk n r w dk wr) (λs _=>(jk+2)-(ϑ s).toNat)
           case atStart=>exact⟨ik,rfl,⟨zo,zo⟩,rfl,j9.o⟩
           case round=>
            obtain⟨k,rfl,GU,hE,hS⟩:=hrel;have HE:=zh hE;have HS:=zh hS;clear hE hS;by_cases Hf:k<=jk
            . have hz:=zu k jk
              have Kq:decide ((k:Int)<=(jk:Int))=true:=by simpa using hz
              have Au:=zt k n
              have Jf:=zt a n
              have c0:=HS.o.2.1.cell k zzAS;have c1:=HS.o.2.1.cell a zzAS;cases hl:ltInt dk[k]! dk[a]! with
              | true=>
               exact zzA7
              | false=>
               exact zzBN
            . exact zzBW
          case rest=>
           obtain⟨il,rfl,YP,hS⟩:=hcut;have Gq:=vY (λx=>ltInt x dk[a]!) dk jk _ ik bR;rw[<-YP] at Gq;have WT:=zh YP;clear YP;have VD:=zh hS;clear hS
           go_upto_block 8 with fail
           go_cut [11] (λs wx=>∃ k:Nat,s=ι k/\k=Sort.scanDown (λx=> !ltInt x dk[a]!) dk il jk/\jW blk n r w dk wx)
           case first=>
            go_wp2;go_loopw [11] (λs wr=>∃ k:Nat,s=ι k/\(k<=jk/\il<=k+2)/\Sort.scanDown (λx=> !ltInt x dk[a]!) dk il k=Sort.scanDown (λx=> !ltInt x dk[a]!) dk il jk/\jW blk n r w dk wr) (λs _=>(ϑ s).toNat)
            case atStart=>exact⟨jk,rfl,⟨zo,zo⟩,rfl,VD.o⟩
            case round=>
             obtain⟨k,rfl,GU,hE,hS⟩:=hrel;have HE:=zh hE;have HS:=zh hS;clear hE hS;by_cases Hf:il<=k
             . have hz:=zu il k
               have Kq:decide ((il:Int)<=(k:Int))=true:=by simpa using hz
               have Au:=zt k n
               have Jf:=zt a n
               have c0:=HS.o.2.1.cell k zzAS;have c1:=HS.o.2.1.cell a zzAS;cases hl:ltInt dk[k]! dk[a]! with
               | false=>
                exact zzAw
               | true=>
                exact zzBM
             . exact zzBV
           case rest=>
            obtain⟨jl,rfl,xi,hS⟩:=hcut;have Gr:=qU (λx=> !ltInt x dk[a]!) dk il jk;rw[<-xi] at Gr;have WU:=zh xi;clear xi;have JV:=zh hS;clear hS;have uz:=zh (zgP a ik jk il jl dk WT.o WU.o zo);by_cases U2:jl<il
            . have Kf:=zt jl il
              go_wp2;go_meet
              case rel=>exact⟨jl,dk,rfl,zo,by rw[<-D1.o,uz.o,zP U2],JV.o⟩
            . have Kf:=zn jl il
              obtain⟨dn,IX⟩:=zE (swp dk il jl);have FZ:=zh IX;clear IX;go_upto_region 18 with fail;exact zzAM
        case rest=>
         obtain⟨jf,df,rfl,hjf,Mi,hS⟩:=hcut;have bu:=zh hS;have uz:=zh Mi;clear hS Mi;obtain⟨d5,hd5⟩:=zE (swp df jf a);have WS:=zh hd5;clear hd5;go_upto_region 21 with fail;have c0:=bu.o.2.1.cell jf (by have:=bu.o.1;omega);have c1:=bu.o.2.1.cell a (by have:=bu.o.1;omega);have Xl:=bu.o.2.1.free jf;have Ya:=bu.o.2.1.free a;go_cut [] (λwx=>jW blk n r w d5 wx)
         case first=>
          by_cases heq:jf=a
          . subst heq
            clear c1 Ya
            go_region
            all_goals (go_wp2;go_meet)
            case rel=>rw[WS.o];exact (bu.o.drewN _).swap jf jf zo zo
          have P5:¬ a=jf:=λe=>heq e.symm
          go_region
          all_goals (go_wp2;go_meet)
          case rel=>rw[WS.o];exact (bu.o.drewN _).swap jf a zo zo
         rotate_left 0
         case rest=>
          have CH:=zh hcut;clear hcut c0 c1 Xl Ya;go_wp2
          go_ret2
          have e3:Sort.partition ltInt d a b pv=(jf,false,d5):=by
           have ei:i2+1=i3:=Ly.o.symm;have ej:j2-1=j3:=zo
           rw[sm.o,zN GM,<-FY.o,ei,ej,uz.o,WS.o]
          unfold PtO;rw[Ju.o,e3];exact⟨rfl,CH.o⟩
end
section
open Go.RowKit Go.Lib Tryz
open Go.Sort (swp ltInt)
def PeO (PT:Nat×Array Int) (blk n:Nat) (r:ζ) (w:ω) (e:Ending) (w':ω):Prop:=e=ρ (ι PT.1)/\jW blk n r w PT.2 w'
theorem zaX (blk n cap a b pv:Nat) (r:ζ) (d:Array Int) (w:ω) (hR:eP w blk d r) (hn:d.size=n) (PN:a<=pv) (Vr:pv<b) (hb:b<=n) (Hv:n<1000000000):
 Γ 138 #[σ blk n cap,ι a,ι b,ι pv] w (PeO (Sort.partitionEqual ltInt d a b pv) blk n r w):=by
 have:(a:Int)<b:=zo
 have:(pv:Int)<n:=zo
 have:(a:Int)<=pv:=zo
 have:(pv:Int)<b:=zo
 have VB:=zh (jW.refl (w:=w) hR hn);clear hR hn;obtain⟨PT,UE⟩:=zE (Sort.partitionEqual ltInt d a b pv);have Ju:=zh UE;rw[<-UE];clear UE;go_in;obtain⟨d1,KU⟩:=zE (swp d a pv);have CL:=zh KU;clear KU;go_upto_region 1 with fail
 have c0:=VB.o.2.1.cell a zzC1;have c1:=VB.o.2.1.cell pv zzC1;have Xl:=VB.o.2.1.free a;have Ya:=VB.o.2.1.free pv;go_cut [] (λwx=>jW blk n r w d1 wx)
 case first=>
  exact zzAu
 rotate_left 0
 case rest=>
  have YE:=zh hcut;clear hcut c0 c1 Xl Ya;go_upto_region 2 with fail
  go_cut [9,10] (λXJ VT wx=>∃ i1 j1:Nat,XJ=ι i1/\VT=ι j1/\i1=a+1/\j1+1=b/\wx=wc)
  case first=>
   go_wp2;go_meet
   case rel=>exact⟨a+1,b-1,by go_num,zg,rfl,zo,rfl⟩
  case rest=>
   obtain⟨i1,j1,rfl,rfl,TW,Ds,rfl⟩:=hcut;have Af:=zh TW;have:i1<=a+1:=zo
   have:a+1<=i1:=zo
   clear TW
   go_upto_block 0 with fail
   go_cut [9,10] (λs9 _ wx=>∃ (i:Nat) (dk:Array Int),s9=ι i/\Sort.partEqLoop ltInt a i1 j1 d1=(i,dk)/\jW blk n r w dk wx)
   case first=>
    go_wp2;go_loopw [9,10] (λXJ VT wr=>∃ (i j:Nat) (dk:Array Int),XJ=ι i/\VT=ι j/\a<i/\j<b/\i<=j+2/\Sort.partEqLoop ltInt a i j dk=Sort.partEqLoop ltInt a i1 j1 d1/\jW blk n r w dk wr) (λXJ VT _=>(ϑ VT).toNat+2-(ϑ XJ).toNat)
    case atStart=>exact⟨i1,j1,d1,rfl,rfl,zo,zo,zo,rfl,YE.o⟩
    case round=>
     obtain⟨ik,jk,dk,rfl,rfl,GO,hjk,KY,hE,hS⟩:=hrel;have j9:=zh hS;have D1:=zh hE;clear hS hE
     go_upto_block 2 with fail
     go_cut [9] (λs wx=>∃ k:Nat,s=ι k/\k=Sort.scanUp (λx=> !ltInt dk[a]! x) dk jk ik/\jW blk n r w dk wx)
     case first=>
      go_wp2;go_loopw [9] (λs wr=>∃ k:Nat,s=ι k/\(ik<=k/\k<=jk+2)/\Sort.scanUp (λx=> !ltInt dk[a]! x) dk jk k=Sort.scanUp (λx=> !ltInt dk[a]! x) dk jk ik/\jW blk n r w dk wr) (λs _=>(jk+2)-(ϑ s).toNat)
      case atStart=>exact⟨ik,rfl,⟨zo,zo⟩,rfl,j9.o⟩
      case round=>
       obtain⟨k,rfl,GU,hE,hS⟩:=hrel;have HE:=zh hE;have HS:=zh hS;clear hE hS;by_cases Hf:k<=jk
       . have hz:=zu k jk
         have Kq:decide ((k:Int)<=(jk:Int))=true:=by simpa using hz
         have Au:=zt k n
         have Jf:=zt a n
         have c0:=HS.o.2.1.cell k zzAS;have c1:=HS.o.2.1.cell a zzAS;cases hl:ltInt dk[a]! dk[k]! with
         | false=>
          exact zzA7
         | true=>
          exact zzBN
       . exact zzBW
     case rest=>
      obtain⟨il,rfl,YP,hS⟩:=hcut;have Gq:=vY (λx=> !ltInt dk[a]! x) dk jk _ ik bR;rw[<-YP] at Gq;have WT:=zh YP;clear YP;have VD:=zh hS;clear hS
      go_upto_block 4 with fail
      go_cut [10] (λs wx=>∃ k:Nat,s=ι k/\k=Sort.scanDown (λx=>ltInt dk[a]! x) dk il jk/\jW blk n r w dk wx)
      case first=>
       go_wp2;go_loopw [10] (λs wr=>∃ k:Nat,s=ι k/\(k<=jk/\il<=k+2)/\Sort.scanDown (λx=>ltInt dk[a]! x) dk il k=Sort.scanDown (λx=>ltInt dk[a]! x) dk il jk/\jW blk n r w dk wr) (λs _=>(ϑ s).toNat)
       case atStart=>exact⟨jk,rfl,⟨zo,zo⟩,rfl,VD.o⟩
       case round=>
        obtain⟨k,rfl,GU,hE,hS⟩:=hrel;have HE:=zh hE;have HS:=zh hS;clear hE hS;by_cases Hf:il<=k
        . have hz:=zu il k
          have Kq:decide ((il:Int)<=(k:Int))=true:=by simpa using hz
          have Au:=zt k n
          have Jf:=zt a n
          have c0:=HS.o.2.1.cell k zzAS;have c1:=HS.o.2.1.cell a zzAS;cases hl:ltInt dk[a]! dk[k]! with
          | true=>
           exact zzAw
          | false=>
           exact zzBM
        . exact zzBV
      case rest=>
       obtain⟨jl,rfl,xi,hS⟩:=hcut;have Gr:=qU (λx=>ltInt dk[a]! x) dk il jk;rw[<-xi] at Gr;have WU:=zh xi;clear xi;have JV:=zh hS;clear hS;have uz:=zh (zeB a ik jk il jl dk WT.o WU.o zo);by_cases U2:jl<il
       . have Kf:=zt jl il
         go_wp2;go_meet
         case rel=>exact⟨il,dk,rfl,by rw[<-D1.o,uz.o,zP U2],JV.o⟩
       . have Kf:=zn jl il
         obtain⟨dn,IX⟩:=zE (swp dk il jl);have FZ:=zh IX;clear IX;go_upto_region 8 with fail;exact zzAM
   case rest=>
    obtain⟨jf,df,rfl,Mi,hS⟩:=hcut;have bu:=zh hS;have uz:=zh Mi;clear hS Mi;go_wp2;go_ret;have e3:Sort.partitionEqual ltInt d a b pv=(jf,df):=by
     have ej:j1=b-1:=zo
     unfold Sort.partitionEqual;rw[<-CL.o,<-Af.o,<-ej,uz.o]
    unfold PeO;rw[Ju.o,e3];exact⟨rfl,bu.o⟩
end
section
open Go.RowKit Go.Lib Tryz
open Go.Sort (swp ltInt)
theorem za5 (d:Array Int) (b i:Nat) (h:i<b) (hp:ltInt d[i]! d[i-1]! =false):Sort.scanSorted ltInt d b i=Sort.scanSorted ltInt d b (i+1):=by
 grind [Sort.scanSorted]
theorem nF (d:Array Int) (b i:Nat) (h:¬ i<b\/ltInt d[i]! d[i-1]! =true):Sort.scanSorted ltInt d b i=i:=by
 grind [Sort.scanSorted]
theorem zeI (d:Array Int) (b:Nat):∀ (n i:Nat),b-i<=n->i<=b->i<=Sort.scanSorted ltInt d b i/\Sort.scanSorted ltInt d b i<=b:=by
 intro n
 induction n with
 | zero=>grind [nF]
 | succ n ih=>
  intro i h hi;by_cases hc:i<b/\ltInt d[i]! d[i-1]! =false
  all_goals grind [za5,nF]
theorem zf4 (j:Nat) (d:Array Int) (hj:0<j) (h:ltInt d[j]! d[j-1]! =true):Sort.shiftDown ltInt j d=Sort.shiftDown ltInt (j-1) (swp d j (j-1)):=by
 obtain⟨j,rfl⟩:∃ k,j=k+1:=⟨j-1,zo⟩
 grind [Sort.shiftDown]
theorem zah (j:Nat) (d:Array Int) (h:j=0\/ltInt d[j]! d[j-1]! =false):Sort.shiftDown ltInt j d=d:=by
 cases j with
 | zero=>rfl
 | succ j=>
  grind [Sort.shiftDown]
theorem zby (b j:Nat) (d:Array Int) (hj:j<b) (h:ltInt d[j]! d[j-1]! =true):Sort.shiftUp ltInt b j d=Sort.shiftUp ltInt b (j+1) (swp d j (j-1)):=by
 grind [Sort.shiftUp]
theorem mN (b j:Nat) (d:Array Int) (h:¬ j<b\/ltInt d[j]! d[j-1]! =false):Sort.shiftUp ltInt b j d=d:=by
 grind [Sort.shiftUp]
def PiO (PT:Array Int×Bool) (blk n:Nat) (r:ζ) (w:ω) (e:Ending) (w':ω):Prop:=e=ρ (φ PT.2)/\jW blk n r w PT.1 w'
theorem zaa (blk n cap a b:Nat) (r:ζ) (d:Array Int) (w:ω) (hR:eP w blk d r) (hn:d.size=n) (KJ:a<b) (hb:b<=n) (Hv:n<1000000000):
 Γ 137 #[σ blk n cap,ι a,ι b] w (PiO (Sort.partialInsertionSort ltInt d a b) blk n r w):=by
 have VB:=zh (jW.refl (w:=w) hR hn);unfold Sort.partialInsertionSort;obtain⟨PT,UE⟩:=zE (Sort.partialIns ltInt a b 5 (a+1) d);have Ju:=zh UE;rw[<-UE];clear hR hn UE;have:=lM (n:=(b:Int)-(a:Int));go_in;go_wp2
 go_loopw [7,8] (λs7 s8 wr=>∃ (ik jk:Nat) (dk:Array Int),s7=ι ik/\s8=ι jk/\a+1<=ik/\ik<=b/\jk<=5/\PT=Sort.partialIns ltInt a b (5-jk) ik dk/\jW blk n r w dk wr) (λ_ s8 _=>5-(ϑ s8).toNat)
 case atStart=>exact⟨a+1,0,d,by go_num,rfl,zo,zo,zo,Ju.o,VB.o⟩
 case round=>
  obtain⟨ik,jk,dk,rfl,rfl,GO,o9,hj5,hE,hS⟩:=hrel;have j9:=zh hS;have D1:=zh hE;clear hS hE;by_cases hj:jk<5;rotate_left
  . have hz:¬ (jk:Int)<5:=zo
    go_wp2;go_ret;have h5:5-jk=0:=zo
    unfold PiO;rw[D1.o,h5];exact⟨rfl,j9.o⟩
  have hz:(jk:Int)<5:=zo
  have HEq:=zh (show PT=Sort.partialIns ltInt a b ((5-(jk+1))+1) ik dk by rw[D1.o];grind);rw[Sort.partialIns_succ] at HEq
  go_upto_block 2 with fail
  go_cut [7] (λs wx=>∃ k:Nat,s=ι k/\k=Sort.scanSorted ltInt dk b ik/\jW blk n r w dk wx)
  case first=>
   go_wp2;go_loopw [7] (λs wr=>∃ k:Nat,s=ι k/\ik<=k/\k<=b/\Sort.scanSorted ltInt dk b k=Sort.scanSorted ltInt dk b ik/\jW blk n r w dk wr) (λs _=>b-(ϑ s).toNat)
   case atStart=>exact⟨ik,rfl,bR,o9,rfl,j9.o⟩
   case round=>
    obtain⟨k,rfl,Yr,QF,hE,hS⟩:=hrel;have HE:=zh hE;have HS:=zh hS;clear hE hS;by_cases Hf:k<b
    . have hz:=zt k b
      have Kq:decide ((k:Int)<(b:Int))=true:=by simpa using hz
      have Au:=zt k n
      obtain⟨p,hp⟩:=zE (k-1);have hw:IntKind.i64.wrap ((k:Int)-1)=(p:Int):=by rw[lM];omega
      have CV:=zt p n
      have Qg:=za5 dk b k Hf;have Hh:=nF dk b k;rw[<-hp] at Qg Hh;have VW:=zh Qg;have Hl:=zh Hh;have c0:=HS.o.2.1.cell k zzAS;have c1:=HS.o.2.1.cell p zzAS;clear hp Qg Hh;cases hl:ltInt dk[k]! dk[p]! with
      | false=>
       go_wp2;go_quiet ((go_at_call 126;exact Calls.quiet_of_same (fM _ _ _)));go_wp2;go_roundw
       case rel=>exact⟨k+1,by go_num,zo,zo,by rw[<-HE.o];exact (VW.o hl).symm,HS.o.drewN _⟩
       case measure=>exact zY
      | true=>
       go_wp2;go_quiet ((go_at_call 126;exact Calls.quiet_of_same (fM _ _ _)));go_wp2;go_meet
       case rel=>exact⟨k,rfl,by rw[<-HE.o];exact (Hl.o (.inr hl)).symm,HS.o.drewN _⟩
    . have Kq:decide ((k:Int)<(b:Int))=false:=zx
      go_wp2;go_quiet (fail);go_wp2;go_meet
      case rel=>exact⟨k,rfl,by rw[<-HE.o];exact (nF dk b k (.inl Hf)).symm,HS.o.drewN _⟩
  case rest=>
   obtain⟨i,rfl,hi,hS⟩:=hcut;have VD:=zh hS;have hib:=zeI dk b _ ik bR o9;have JM:=zh HEq.o;have Hi:=zh hi;rw[<-hi] at hib;clear hS hi HEq;by_cases P0:i=b
   . have ax:((i:Int)==(b:Int))=true:=by simp[P0]
     have mu:PT=(dk,true):=by rw[JM.o,<-Hi.o,zP P0]
     have Pu:=zh mu;clear P0 mu;go_wp2;go_ret;unfold PiO;rw[Pu.o];exact⟨rfl,VD.o⟩
   have ax:((i:Int)==(b:Int))=false:=zx
   by_cases WV:b-a<50
   . have Kf:(b:Int)-(a:Int)<50:=zo
     have mu:PT=(dk,false):=by rw[JM.o,<-Hi.o,zN P0,zP WV]
     have Pu:=zh mu;clear mu;go_wp2;go_ret;unfold PiO;rw[Pu.o];exact⟨rfl,VD.o⟩
   have Kf:¬ (b:Int)-(a:Int)<50:=zo
   have Pu:zH (PT=Sort.partialIns ltInt a b (5-(jk+1)) i (Sort.fixUp ltInt b i (Sort.fixDown ltInt a i (swp dk i (i-1))))):=zh (by rw[JM.o,<-Hi.o,zN P0,zN WV]);obtain⟨p,hp⟩:=zE (i-1);have hw:IntKind.i64.wrap ((i:Int)-1)=(p:Int):=by rw[lM];omega
   have:=zt i n
   have CV:=zt p n
   have:p<i:=zo
   have:i<=p+1:=zo
   have Hp:=zh hp;clear hp JM;obtain⟨d1,KU⟩:=zE (swp dk i p);have CL:=zh KU;clear KU;go_upto_region 11 with fail
   have c0:=VD.o.2.1.cell i zzC2;have c1:=VD.o.2.1.cell p zzC2;have Xl:=VD.o.2.1.free i;have Ya:=VD.o.2.1.free p;go_cut [] (λwx=>jW blk n r w d1 wx)
   case first=>
    go_region
    all_goals (go_wp2;go_meet)
    case rel=>rw[CL.o];exact (VD.o.drewN _).swap i p zo zo
   case rest=>
    have YE:=zh hcut;clear hcut c0 c1 Xl Ya;obtain⟨ia,hia⟩:=zE (i-a);have RF:IntKind.i64.wrap ((i:Int)-(a:Int))=(ia:Int):=by rw[lM];omega
    have fy:(i:Int)-(a:Int)=(ia:Int):=zo
    clear hia;obtain⟨dF,hdF⟩:=zE (Sort.fixDown ltInt a i d1);have mh:=zh hdF;clear hdF;by_cases h2:ia≥2
    . have Pq:(2:Int)<=(ia:Int):=zo
      have HF:zH (dF=Sort.shiftDown ltInt p d1):=zh (by rw[mh.o];unfold Sort.fixDown;rw[zP zo,Hp.o]);clear h2;go_wp2;go_loopw [9] (λs wr=>∃ (k:Nat) (dl:Array Int),s=ι k/\k<=p/\Sort.shiftDown ltInt k dl=dF/\jW blk n r w dl wr) (λs _=>(ϑ s).toNat)
      case atStart=>exact⟨p,d1,zr,bR,HF.o.symm,YE.o⟩
      case round=>
       obtain⟨k,dl,rfl,K1,hE,hS⟩:=hrel;have HE:=zh hE;have HS:=zh hS;clear hE hS;by_cases YQ:1<=k
       . have NV:(1:Int)<=(k:Int):=zo
         obtain⟨q,hq⟩:=zE (k-1);have Xz:IntKind.i64.wrap ((k:Int)-1)=(q:Int):=by rw[lM];omega
         have Au:=zt k n
         have BC:=zt q n
         have Qg:=zf4 k dl zo;have Hh:=zah k dl;rw[<-hq] at Qg Hh;have VW:=zh Qg;have Hl:=zh Hh;have hqk:q<k:=zo
         have:k<=q+1:=zo
         have c0:=HS.o.2.1.cell k zzAS;have c1:=HS.o.2.1.cell q zzAS;clear hq Qg Hh;cases hl:ltInt dl[k]! dl[q]! with
         | false=>
          go_wp2;go_quiet ((go_at_call 126;exact Calls.quiet_of_same (fM _ _ _)));have II:jW blk n r w dF (wr.drewN nq):=by rw[<-HE.o,Hl.o (.inr hl)];exact HS.o.drewN _
          generalize wr.drewN nq=wq at II ⊢;clear c0 c1 HS HE VW Hl Xz RF fy hl;obtain⟨bi,kv⟩:=zE (b-i);have RE:IntKind.i64.wrap ((b:Int)-(i:Int))=(bi:Int):=by rw[lM];omega
          have fw:(b:Int)-(i:Int)=(bi:Int):=zo
          clear kv;have N6:zH (PT=Sort.partialIns ltInt a b (5-(jk+1)) i (Sort.fixUp ltInt b i dF)):=zh zzCv;have bz:=II;by_cases h2:bi≥2
          . exact zzAA
          . exact zzAr
         | true=>
          go_wp2;go_quiet ((go_at_call 126;exact Calls.quiet_of_same (fM _ _ _)));have Xc:=zh (HS.o.drewN nq);generalize wr.drewN nq=wq at Xc ⊢;clear c0 c1 HS;have c0:=Xc.o.2.1.cell k (by have:=Xc.o.1;omega);have c1:=Xc.o.2.1.cell q (by have:=Xc.o.1;omega);have Xl:=Xc.o.2.1.free k;have Ya:=Xc.o.2.1.free q;go_wp2
          go_region
          all_goals go_wp2
          all_goals go_roundw
          case rel=>exact⟨q,swp dl k q,zr,zo,by rw[<-HE.o,VW.o hl],(Xc.o.drewN _).swap k q zo zo⟩
          assumption
       have NV:¬ (1:Int)<=(k:Int):=zo
       have II:jW blk n r w dF wr:=by rw[<-HE.o,zah k dl (.inl zo)];exact HS.o
       clear HS HE RF fy;obtain⟨bi,kv⟩:=zE (b-i);have RE:IntKind.i64.wrap ((b:Int)-(i:Int))=(bi:Int):=by rw[lM];omega
       have fw:(b:Int)-(i:Int)=(bi:Int):=zo
       clear kv;have N6:zH (PT=Sort.partialIns ltInt a b (5-(jk+1)) i (Sort.fixUp ltInt b i dF)):=zh zzCv;have bz:=II;by_cases h2:bi≥2
       . exact zzAA
       exact zzAr
    have Pq:¬ (2:Int)<=(ia:Int):=zo
    have HF:zH (dF=d1):=zh (by rw[mh.o];unfold Sort.fixDown;rw[zN zo]);clear h2;have II:jW blk n r w dF wc:=by rw[HF.o];exact YE.o
    obtain⟨bi,kv⟩:=zE (b-i);have RE:IntKind.i64.wrap ((b:Int)-(i:Int))=(bi:Int):=by rw[lM];omega
    have fw:(b:Int)-(i:Int)=(bi:Int):=zo
    clear kv;have N6:zH (PT=Sort.partialIns ltInt a b (5-(jk+1)) i (Sort.fixUp ltInt b i dF)):=zh zzCv;have bz:=II;by_cases h2:bi≥2
    . exact zzAA
    have Pq:¬ (2:Int)<=(bi:Int):=zo
    have HF:zH (Sort.fixUp ltInt b i dF=dF):=zh zo;clear h2;generalize Sort.fixUp ltInt b i dF=dG at*;go_wp2;omega
end
section
open Go.RowKit Go.Lib Tryz
open Go.Sort (swp ltInt)
def sS (w:ω) (b:Nat) (s:Int):Prop:=w.h b #[ι s] 3
theorem sS.cell {s:Int} (h:sS w b s):w.i b 0 s:=by rw[bF w b 0 _ _ _ h];rfl
theorem sS.set {s:Int} (h:sS w b s) (t:Int):sS (ς w b.a (ι t)) b t:=by
 unfold sS at h ⊢;rw[aB w b 0 _ _ _ _ h];rfl
theorem eP.grown {w':ω} {g:Nat} {d:Array Int} {r:ζ} (h:eP w b d r) (hg:w.g w' g) (qg:b≠g):eP w' b d r:=
 (hg.block b h.lt (λe=>qg zg)).trans h
def O2 (a b:Nat) (sb:Nat) (s:Nat) (w:ω) (e:Ending) (w':ω):Prop:=
 ∃ (x y s':Nat),e=ρ (ϕ #[ι x,ι y])/\((x=a/\y=b)\/(x=b/\y=a))/\s'<=s+1/\sS w' sb s'/\w.g w' sb
theorem aM {a b:ω} {row:Option Nat} (h:a.grownBy b row) (n:Nat):a.grownBy (b.drewN n) row:=⟨h.os,h.tape,h.output,h.size,h.block⟩
theorem lV (w:ω) (b i:Nat) (u:Value):w.grownBy (ς w (b.p i) u) (some b):=
 ⟨rfl,rfl,rfl,zs,λk _ hr=>aD _ _ _ _ (λe=>hr (by rw[e]))⟩
theorem zbp (blk n cap a b sb s:Nat) (r:ζ) (d:Array Int) (w:ω) (hR:eP w blk d r) (hn:d.size=n) (ha:a<n) (hb:b<n) (Hv:n<1000000000) (hs:sS w sb s) (AH:s<1000):
 Γ 164 #[σ blk n cap,ι a,ι b,π sb] w (O2 a b sb s w):=by
 have Jf:(a:Int)<n:=zo
 have x6:(b:Int)<n:=zo
 have c0:=hR.cell a zo;have c1:=hR.cell b zo;have HS:=zh hs;have:=bN w sb 0 _ _ hs;have:=hs.cell;clear hR hn hs;go_in;go_wp2;go_quiet ((go_at_call 126;exact Calls.quiet_of_same (fM _ _ _)));clear Jf x6 c0 c1;go_wp2
 . go_ret2
   exact⟨b,a,s+1,rfl,.inr ⟨rfl,rfl⟩,bR,sS.set (w:=w.drewN nq) HS.o _,aC (aM (eN w (some sb)) nq) (lV (w.drewN nq) sb 0 _)⟩
 go_ret2
 exact⟨a,b,s,rfl,.inl ⟨rfl,rfl⟩,zo,HS.o,aM (eN _ _) _⟩
def M3 (a b c:Nat) (sb:Nat) (s:Nat) (w:ω) (e:Ending) (w':ω):Prop:=
 ∃ (x s':Nat),e=ρ (ι x)/\(x=a\/x=b\/x=c)/\s'<=s+3/\sS w' sb s'/\w.g w' sb
theorem zbi (blk n cap a b c sb s:Nat) (r:ζ) (d:Array Int) (w:ω) (hR:eP w blk d r) (hn:d.size=n) (ha:a<n) (hb:b<n) (hc:c<n) (Hv:n<1000000000) (hs:sS w sb s) (AH:s<900) (qg:blk≠sb):
 Γ 155 #[σ blk n cap,ι a,ι b,ι c,π sb] w (M3 a b c sb s w):=by
 have HR:=zh hR;have HN:=zh hn;have HS:=zh hs;clear hR hn hs;go_in;go_wp2_with fail;refine (zbp blk n cap a b sb s r d w HR.o HN.o ha hb Hv HS.o zo).mono ?_;rintro e w1 ⟨x1,y1,s1,rfl,C4,Yk,Be,QU⟩;have Tw:=zh (HR.o.grown QU qg);have Af:=zh Be;have Kv:=zh QU;clear Be QU;go_wp2_with fail;refine (zbp blk n cap y1 c sb s1 r d w1 Tw.o HN.o zo hc Hv Af.o zo).mono ?_;rintro e w2 ⟨x2,y2,s2,rfl,Yl,x8,Uu,qk⟩
 have QL:=zh (Tw.o.grown qk qg);have Tm:=zh Uu;have Ae:=zh qk;clear Uu qk;go_wp2_with fail;refine (zbp blk n cap x1 x2 sb s2 r d w2 QL.o HN.o zo zo Hv Tm.o zo).mono ?_;rintro e w3 ⟨x3,y3,s3,rfl,Te,tk,my,ye⟩;have Ly:=zh my;have Fo:=zh ye;clear my ye;have HX:=Λ C4 Yl Te;clear C4 Yl Te;go_wp2;go_ret;refine⟨y3,s3,rfl,?_,zo,Ly.o,aC Kv.o (aC Ae.o Fo.o)⟩;have:=HX.o;omega
theorem nQ (blk n cap a sb s:Nat) (r:ζ) (d:Array Int) (w:ω) (hR:eP w blk d r) (hn:d.size=n) (ha0:0<a) (ha:a+1<n) (Hv:n<1000000000) (hs:sS w sb s) (AH:s<900) (qg:blk≠sb):
 Γ 154 #[σ blk n cap,ι a,π sb] w (M3 (a-1) a (a+1) sb s w):=by
 have hM:=zbi blk n cap (a-1) a (a+1) sb s r d w hR hn zo zo ha Hv hs AH qg;obtain⟨p,hp⟩:=zE (a-1);obtain⟨q,hq⟩:=zE (a+1);rw[<-hp,<-hq] at hM ⊢;have:(a:Int)<1000000000:=zo
 have:(a:Int)-1=(p:Int):=zo
 have:(a:Int)+1=(q:Int):=zo
 clear hR hn hs hp hq;go_in;go_wp2_with fail;refine hM.mono ?_;rintro e w1 ⟨x,s1,rfl,hx,Yk,hI,hg⟩;have HI:=zh hI;have HG:=zh hg;have HX:=zh hx;clear hI hg hx;go_wp2;go_ret;exact⟨x,s1,rfl,HX.o,Yk,HI.o,HG.o⟩
def CP (a b:Nat) (w:ω) (e:Ending) (w':ω):Prop:=
 ∃ (p h:Nat),e=ρ (ϕ #[ι p,ι h])/\a<=p/\p<b/\h<=2/\w.u w'
theorem qI {w1 w2:ω} (h:w.u w1) (hg:w1.g w2 b) (hb:w.t<=b):w.u w2:=
 h.grown hg h.size (λk e=>zg)
theorem CP.mk {a:Nat} {w':ω} (p h:Nat) (h1:a<=p) (h2:p<b) (h3:h<=2) (h4:w.u w'):CP a b w (ρ (ϕ #[ι p,ι h])) w':=⟨p,h,rfl,h1,h2,h3,h4⟩
theorem zfs (s:Nat):((s:Int)==0)=true\/(((s:Int)==0)=false/\((s:Int)==12)=true)\/(((s:Int)==0)=false/\((s:Int)==12)=false):=by
 grind
theorem zca (blk n cap a b:Nat) (r:ζ) (d:Array Int) (w:ω) (hR:eP w blk d r) (hn:d.size=n) (KJ:a+8<=b) (hb:b<=n) (Hv:n<1000000000):
 Γ 135 #[σ blk n cap,ι a,ι b] w (CP a b w):=by
 have HN:=zh hn;have Hf:=hR.lt;obtain⟨l,hl⟩:=zE (b-a);obtain⟨q,hq⟩:=zE (l / 4);have:IntKind.i64.wrap ((b:Int)-(a:Int))=(l:Int):=by rw[lM];omega
 have:(b:Int)-(a:Int)=(l:Int):=zo
 have:(l:Int) / 4=(q:Int):=zo
 obtain⟨i,hi⟩:=zE (a+q);obtain⟨j,hj⟩:=zE (a+q*2);obtain⟨k,hk⟩:=zE (a+q*3);have:(a:Int)+(q:Int)=(i:Int):=zo
 have:(a:Int)+(q:Int)*2=(j:Int):=zo
 have:(a:Int)+(q:Int)*3=(k:Int):=zo
 have:(q:Int)<1000000000:=zo
 have:(a:Int)<1000000000:=zo
 have p9:=(zBr w.t w).alloc bR (Ω #[ι 0] 3);have Hc:sS (κ w (Ω #[ι 0] 3)) w.t 0:=by unfold sS;rw[aV,zP rfl]
 have PJ:eP (κ w (Ω #[ι 0] 3)) blk d r:=(p9.block blk Hf).trans hR;have:(8:Int)<=(l:Int):=zo
 have:a<i/\i+1<b/\a<j/\j+1<b/\a<k/\k+1<b:=zo
 have qg:blk≠w.t:=zo
 clear hR hn hl hq hi hj hk;have jy:=zh p9;have VB:=zh Hc;have FJ:=zh PJ;clear p9 Hc PJ;go_in;by_cases WV:50<=l
 . have WW:(50:Int)<=(l:Int):=zo
   go_wp2_with fail;refine (nQ blk n cap i w.t 0 r d _ FJ.o HN.o zo zo Hv VB.o zo qg).mono ?_;rintro e w1 ⟨x1,s1,rfl,C4,Yk,Be,QU⟩;have Tw:=zh (FJ.o.grown QU qg);have XW:=zh (qI jy.o QU bR);have Af:=zh Be;clear Be QU;go_wp2_with fail;refine (nQ blk n cap j w.t s1 r d w1 Tw.o HN.o zo zo Hv Af.o zo qg).mono ?_;rintro e w2 ⟨x2,s2,rfl,Yl,x8,Uu,qk⟩;have QL:=zh (Tw.o.grown qk qg)
   have QV:=zh (qI XW.o qk bR);have Tm:=zh Uu;clear Uu qk;go_wp2_with fail;refine (nQ blk n cap k w.t s2 r d w2 QL.o HN.o zo zo Hv Tm.o zo qg).mono ?_;rintro e w3 ⟨x3,s3,rfl,Te,tk,my,ye⟩;have CG:=zh (QL.o.grown ye qg);have VU:=zh (qI QV.o ye bR);have Ly:=zh my;clear my ye;go_wp2_with fail
   refine (zbi blk n cap x1 x2 x3 w.t s3 r d w3 CG.o HN.o zo zo zo Hv Ly.o zo qg).mono ?_;rintro e w4 ⟨x,s,rfl,hx,hs,hI,hg⟩;have yg:=zh (qI VU.o hg bR);have hc:=hI.cell;have p5:a<=x/\x<b:=zo
   clear hI hg C4 Yl Te hx hs Yk x8 tk
   rcases zfs s with h|⟨h,h'⟩|⟨h,h'⟩
   . go_wp2_with fail
     go_ret2
     exact CP.mk x 1 p5.1 p5.2 zo yg.o
   . go_wp2_with fail
     go_ret2
     exact CP.mk x 2 p5.1 p5.2 zo yg.o
   go_wp2_with fail
   go_ret2
   exact CP.mk x 0 p5.1 p5.2 zo yg.o
 have WW:¬ (50:Int)<=(l:Int):=zo
 go_wp2_with fail;refine (zbi blk n cap i j k w.t 0 r d _ FJ.o HN.o zo zo zo Hv VB.o zo qg).mono ?_;rintro e w4 ⟨x,s,rfl,hx,hs,hI,hg⟩;have yg:=zh (qI jy.o hg bR);have hc:=hI.cell;have p5:a<=x/\x<b:=zo
 clear hI hg hx hs
 rcases zfs s with h|⟨h,h'⟩|⟨h,h'⟩
 . go_wp2
   go_ret2
   exact CP.mk x 1 p5.1 p5.2 zo yg.o
 . go_wp2
   go_ret2
   exact CP.mk x 2 p5.1 p5.2 zo yg.o
 go_wp2
 go_ret2
 exact CP.mk x 0 p5.1 p5.2 zo yg.o
