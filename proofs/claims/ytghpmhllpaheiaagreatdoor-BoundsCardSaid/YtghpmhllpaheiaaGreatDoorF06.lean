/- Part of a proof. No condition. -/
import Derived.Deep.CutBlock
import Derived.Deep.DeepCutAuto
import Derived.Test.YtghpmhllpaheiaaGreatDoorF05
set_option linter.unusedVariables false
set_option linter.unusedSimpArgs false
set_option maxRecDepth 100000
set_option maxHeartbeats 8000000
namespace Go.Proofs.YtghpmhllpaheiaaGreatDoor
variable {w:World} {b:Nat}
section
open Go.RowKit Go.Lib
open Go.Sort (swp ltInt)
theorem vU (p:Int->Bool) (d:Array Int) (j i:Nat) (h:i<=j) (hp:p d[i]! =true):Sort.scanUp p d j i=Sort.scanUp p d j (i+1):=by
 rw[Sort.scanUp,zP (by simp[h,hp])]
theorem iY (p:Int->Bool) (d:Array Int) (j i:Nat) (h:¬ i<=j\/p d[i]! =false):Sort.scanUp p d j i=i:=by
 rw[Sort.scanUp,zN]
 rcases h with h|h<;>simp[h]
theorem pU (p:Int->Bool) (d:Array Int) (i j:Nat) (h:i<=j) (hj:0<j) (hp:p d[j]! =true):Sort.scanDown p d i j=Sort.scanDown p d i (j-1):=by
 obtain⟨j,rfl⟩:∃ k,j=k+1:=⟨j-1,by omega⟩;rw[Sort.scanDown,zP (by simp[h,hp])];rfl
theorem iI (p:Int->Bool) (d:Array Int) (i j:Nat) (h:¬ i<=j\/p d[j]! =false):Sort.scanDown p d i j=j:=by
 cases j with
 | zero=>rfl
 | succ j=>
  rw[Sort.scanDown,zN]
  rcases h with h|h<;>simp[h]
theorem qV (p:Int->Bool) (d:Array Int) (j:Nat):∀ (n i:Nat),j+1-i<=n->i<=Sort.scanUp p d j i/\(Sort.scanUp p d j i<=j+1\/Sort.scanUp p d j i=i):=by
 intro n
 induction n with
 | zero=>intro i h;rw[iY p d j i (.inl (by omega))];omega
 | succ n ih=>
  intro i h;by_cases hc:i<=j/\p d[i]! =true
  . rw[vU p d j i hc.1 hc.2]
    have:=ih (i+1) (by omega);omega
  rw[iY p d j i (by by_cases h1:i<=j<;>simp_all)];omega
theorem nX (p:Int->Bool) (d:Array Int) (i:Nat):∀ (j:Nat),Sort.scanDown p d i j<=j/\(i<=Sort.scanDown p d i j+1\/Sort.scanDown p d i j=j):=by
 intro j
 induction j with
 | zero=>exact⟨zR _,.inr rfl⟩
 | succ j ih=>
  by_cases hc:i<=j+1/\p d[j+1]! =true
  . rw[pU p d i (j+1) hc.1 (by omega) hc.2]
    simp only[Nat.add_sub_cancel];omega
  rw[iI p d i (j+1) (by by_cases h1:i<=j+1<;>simp_all)];omega
theorem zd8 (a i j i2 j2:Nat) (d:Array Int) (hi:i2=Sort.scanUp (λx=>ltInt x d[a]!) d j i) (hj:j2=Sort.scanDown (λx=> !ltInt x d[a]!) d i2 j) (NE:0<i):
 Sort.partLoop ltInt a i j d=if j2<i2 then (j2,d) else Sort.partLoop ltInt a (i2+1) (j2-1) (swp d i2 j2):=by
 have h1:=qV (λx=>ltInt x d[a]!) d j _ i (zR _);rw[<-hi] at h1;have h2:=nX (λx=> !ltInt x d[a]!) d i2 j;rw[<-hj] at h2;rw[Sort.partLoop];simp only[<-hi,<-hj];by_cases h:j2<i2
 . rw[zP h,zP h]
 rw[zN h,zN h,dif_pos (by omega)]
theorem zcl (a i j i2 j2:Nat) (d:Array Int) (hi:i2=Sort.scanUp (λx=> !ltInt d[a]! x) d j i) (hj:j2=Sort.scanDown (λx=>ltInt d[a]! x) d i2 j) (NE:0<i):
 Sort.partEqLoop ltInt a i j d=if j2<i2 then (i2,d) else Sort.partEqLoop ltInt a (i2+1) (j2-1) (swp d i2 j2):=by
 have h1:=qV (λx=> !ltInt d[a]! x) d j _ i (zR _);rw[<-hi] at h1;have h2:=nX (λx=>ltInt d[a]! x) d i2 j;rw[<-hj] at h2;rw[Sort.partEqLoop];simp only[<-hi,<-hj];by_cases h:j2<i2
 . rw[zP h,zP h]
 rw[zN h,zN h,dif_pos (by omega)]
theorem zdg (a b pv i2 j2:Nat) (d d1:Array Int) (hd:d1=swp d a pv) (hi:i2=Sort.scanUp (λx=>ltInt x d1[a]!) d1 (b-1) (a+1)) (hj:j2=Sort.scanDown (λx=> !ltInt x d1[a]!) d1 i2 (b-1)):
 Sort.partition ltInt d a b pv=if j2<i2 then (j2,true,swp d1 j2 a) else
  ((Sort.partLoop ltInt a (i2+1) (j2-1) (swp d1 i2 j2)).1,false,swp (Sort.partLoop ltInt a (i2+1) (j2-1) (swp d1 i2 j2)).2 (Sort.partLoop ltInt a (i2+1) (j2-1) (swp d1 i2 j2)).1 a):=by
 unfold Sort.partition;simp only[<-hd,<-hi,<-hj]
def PtO (PT:Nat×Bool×Array Int) (blk n:Nat) (r:List Value) (w:World) (e:Ending) (w':World):Prop:=e=.returned (.tuple #[.int .i64 PT.1,.bool PT.2.1])/\iK blk n r w PT.2.2 w'
theorem zcm (blk n cap a b pv:Nat) (r:List Value) (d:Array Int) (w:World) (hR:dQ w blk d r) (hn:d.size=n) (Ja:a<=pv) (PB:pv<b) (hb:b<=n) (Qc:n<1000000000):
 Calls Tryz.prog 122 #[.slice (some ⟨blk,0,none⟩) n cap,.int .i64 a,.int .i64 b,.int .i64 pv] w (PtO (Sort.partition ltInt d a b pv) blk n r w):=by
 have FL:(a:Int)<b:=by omega
 have TN:(pv:Int)<n:=by omega
 have Vf:(a:Int)<=pv:=by omega
 have Ov:(pv:Int)<b:=by omega
 have Vc:=zh (iK.refl (w:=w) hR hn);clear hR hn;obtain⟨PT,Aw⟩:=zE (Sort.partition ltInt d a b pv);have JM:=zh Aw;rw[<-Aw];clear Aw;go_enter Tryz.func122,Tryz.ntmps122;obtain⟨d1,Xq⟩:=zE (swp d a pv);have TE:=zh Xq;clear Xq;go_upto_region 1 with (fail)
 have c0:=Vc.o.2.1.cell a (by have:=Vc.o.1;omega);have c1:=Vc.o.2.1.cell pv (by have:=Vc.o.1;omega);have YM:=Vc.o.2.1.free a;have QT:=Vc.o.2.1.free pv;go_cut [] (λwx=>iK blk n r w d1 wx)
 case first=>
  by_cases heq:a=pv
  . subst heq
    clear c1 QT
    go_region
    all_goals (go_wp2_with (fail);go_meet)
    case rel=>rw[TE.o];exact (Vc.o.drewN _).swap a a (by omega) (by omega)
  have Px:¬ pv=a:=λe=>heq e.symm
  go_region
  all_goals (go_wp2_with (fail);go_meet)
  case rel=>rw[TE.o];exact (Vc.o.drewN _).swap a pv (by omega) (by omega)
 rotate_left 0
 case rest=>
  have Ye:=zh hcut;clear hcut c0 c1 YM QT;go_upto_region 2 with (fail)
  go_cut [10,11] (λKa vv wx=>∃ i1 j1:Nat,Ka=.int .i64 i1/\vv=.int .i64 j1/\i1=a+1/\j1+1=b/\wx=wc)
  case first=>
   go_wp2_with (fail);go_meet
   case rel=>exact⟨a+1,b-1,by go_num,by congr 1;omega,rfl,by omega,rfl⟩
  case rest=>
   obtain⟨i1,j1,rfl,rfl,d9,o6,rfl⟩:=hcut
   go_upto_block 0 with (fail)
   go_cut [10] (λs wx=>∃ k:Nat,s=.int .i64 k/\k=Sort.scanUp (λx=>ltInt x d1[a]!) d1 j1 i1/\iK blk n r w d1 wx)
   case first=>
    go_wp2;go_loopw [10] (λs wr=>∃ k:Nat,s=.int .i64 k/\(i1<=k/\k<=j1+2)/\Sort.scanUp (λx=>ltInt x d1[a]!) d1 j1 k=Sort.scanUp (λx=>ltInt x d1[a]!) d1 j1 i1/\iK blk n r w d1 wr) (λs _=>(j1+2)-(RowKit.intOf s).toNat)
    case atStart=>exact⟨i1,rfl,⟨by omega,by omega⟩,rfl,Ye.o⟩
    case round=>
     obtain⟨k,rfl,NH,hE,hS⟩:=hrel;have HE:=zh hE;have HS:=zh hS;clear hE hS;by_cases Hf:k<=j1
     . have hz:(k:Int)<=(j1:Int):=by omega
       have Kx:decide ((k:Int)<=(j1:Int))=true:=by simpa using hz
       have P6:(k:Int)<(n:Int):=by omega
       have ki:(a:Int)<(n:Int):=by omega
       have c0:=HS.o.2.1.cell k (by have:=HS.o.1;omega);have c1:=HS.o.2.1.cell a (by have:=HS.o.1;omega);cases hl:ltInt d1[k]! d1[a]! with
       | true=>
        go_wp2;go_quiet ((go_at_call 94;exact Calls.quiet_of_same (eM _ _ _)));go_wp2;go_roundw
        case rel=>exact⟨k+1,by (first|go_num|(congr 1;omega)),⟨by omega,by omega⟩,by rw[<-HE.o];exact (vU _ d1 j1 k Hf (by simp[hl])).symm,HS.o.drewN _⟩
        case measure=>(simp[zI]<;>omega)
       | false=>
        go_wp2;go_quiet ((go_at_call 94;exact Calls.quiet_of_same (eM _ _ _)));go_wp2_with (fail);go_meet
        case rel=>exact⟨k,rfl,by rw[<-HE.o];exact (iY _ d1 j1 k (.inr (by simp[hl]))).symm,HS.o.drewN _⟩
     . have Kx:decide ((k:Int)<=(j1:Int))=false:=by simp;omega
       go_wp2;go_quiet (fail);go_wp2_with (fail);go_meet
       case rel=>exact⟨k,rfl,by rw[<-HE.o];exact (iY _ d1 j1 k (.inl Hf)).symm,HS.o.drewN _⟩
   case rest=>
    obtain⟨i2,rfl,yn,hS⟩:=hcut;have M5:=qV (λx=>ltInt x d1[a]!) d1 j1 _ i1 (zR _);rw[<-yn] at M5;have WR:=zh yn;clear yn;have Qs:=zh hS;clear hS
    go_upto_block 2 with (fail)
    go_cut [11] (λs wx=>∃ k:Nat,s=.int .i64 k/\k=Sort.scanDown (λx=> !ltInt x d1[a]!) d1 i2 j1/\iK blk n r w d1 wx)
    case first=>
     go_wp2;go_loopw [11] (λs wr=>∃ k:Nat,s=.int .i64 k/\(k<=j1/\i2<=k+2)/\Sort.scanDown (λx=> !ltInt x d1[a]!) d1 i2 k=Sort.scanDown (λx=> !ltInt x d1[a]!) d1 i2 j1/\iK blk n r w d1 wr) (λs _=>(RowKit.intOf s).toNat)
     case atStart=>exact⟨j1,rfl,⟨by omega,by omega⟩,rfl,Qs.o⟩
     case round=>
      obtain⟨k,rfl,NH,hE,hS⟩:=hrel;have HE:=zh hE;have HS:=zh hS;clear hE hS;by_cases Hf:i2<=k
      . have hz:(i2:Int)<=(k:Int):=by omega
        have Kx:decide ((i2:Int)<=(k:Int))=true:=by simpa using hz
        have P6:(k:Int)<(n:Int):=by omega
        have ki:(a:Int)<(n:Int):=by omega
        have c0:=HS.o.2.1.cell k (by have:=HS.o.1;omega);have c1:=HS.o.2.1.cell a (by have:=HS.o.1;omega);cases hl:ltInt d1[k]! d1[a]! with
        | false=>
         go_wp2;go_quiet ((go_at_call 94;exact Calls.quiet_of_same (eM _ _ _)));go_wp2;go_roundw
         case rel=>exact⟨k-1,by (first|go_num|(congr 1;omega)),⟨by omega,by omega⟩,by rw[<-HE.o];exact (pU _ d1 i2 k Hf (by omega) (by simp[hl])).symm,HS.o.drewN _⟩
         case measure=>(simp[zI]<;>omega)
        | true=>
         go_wp2;go_quiet ((go_at_call 94;exact Calls.quiet_of_same (eM _ _ _)));go_wp2_with (fail);go_meet
         case rel=>exact⟨k,rfl,by rw[<-HE.o];exact (iI _ d1 i2 k (.inr (by simp[hl]))).symm,HS.o.drewN _⟩
      . have Kx:decide ((i2:Int)<=(k:Int))=false:=by simp;omega
        go_wp2;go_quiet (fail);go_wp2_with (fail);go_meet
        case rel=>exact⟨k,rfl,by rw[<-HE.o];exact (iI _ d1 i2 k (.inl Hf)).symm,HS.o.drewN _⟩
    case rest=>
     obtain⟨j2,rfl,A1,hS⟩:=hcut;have M6:=nX (λx=> !ltInt x d1[a]!) d1 i2 j1;rw[<-A1] at M6;have WS:=zh A1;clear A1;have QC:=zh hS;clear hS;have Pe:j1=b-1:=by omega
     have II:=zh (zdg a b pv i2 j2 d d1 TE.o (by rw[WR.o,Pe,d9]) (by rw[WS.o,Pe]));clear Pe;by_cases d7:j2<i2
     . have hz:(j2:Int)<(i2:Int):=by omega
       obtain⟨d2,jd⟩:=zE (swp d1 j2 a);have BM:=zh jd;clear jd;go_upto_region 8 with (fail);have c0:=QC.o.2.1.cell j2 (by have:=QC.o.1;omega);have c1:=QC.o.2.1.cell a (by have:=QC.o.1;omega);have YM:=QC.o.2.1.free j2;have QT:=QC.o.2.1.free a;go_cut [] (λwx=>iK blk n r w d2 wx)
       case first=>
        by_cases heq:j2=a
        . subst heq
          clear c1 QT
          go_region
          all_goals (go_wp2_with (fail);go_meet)
          case rel=>rw[BM.o];exact (QC.o.drewN _).swap j2 j2 (by omega) (by omega)
        have Px:¬ a=j2:=λe=>heq e.symm
        go_region
        all_goals (go_wp2_with (fail);go_meet)
        case rel=>rw[BM.o];exact (QC.o.drewN _).swap j2 a (by omega) (by omega)
       rotate_left 0
       case rest=>
        have Vp:=zh hcut;clear hcut c0 c1 YM QT;go_wp2
        go_ret2
        unfold PtO;rw[JM.o,II.o,zP d7,<-BM.o];exact⟨rfl,Vp.o⟩
     have hz:¬ (j2:Int)<(i2:Int):=by omega
     obtain⟨d2,jd⟩:=zE (swp d1 i2 j2);have BM:=zh jd;clear jd;go_upto_region 10 with (fail);have c0:=QC.o.2.1.cell i2 (by have:=QC.o.1;omega);have c1:=QC.o.2.1.cell j2 (by have:=QC.o.1;omega);have YM:=QC.o.2.1.free i2;have QT:=QC.o.2.1.free j2;go_cut [] (λwx=>iK blk n r w d2 wx)
     case first=>
      by_cases heq:i2=j2
      . subst heq
        clear c1 QT
        go_region
        all_goals (go_wp2_with (fail);go_meet)
        case rel=>rw[BM.o];exact (QC.o.drewN _).swap i2 i2 (by omega) (by omega)
      have Px:¬ j2=i2:=λe=>heq e.symm
      go_region
      all_goals (go_wp2_with (fail);go_meet)
      case rel=>rw[BM.o];exact (QC.o.drewN _).swap i2 j2 (by omega) (by omega)
     rotate_left 0
     case rest=>
      have Vp:=zh hcut;clear hcut c0 c1 YM QT;go_upto_region 11 with (fail)
      go_cut [10] (λKa wx=>∃ i3:Nat,Ka=.int .i64 i3/\i3=i2+1/\wx=wc)
      case first=>
       go_wp2_with (fail);go_meet
       case rel=>exact⟨i2+1,by go_num,rfl,rfl⟩
      case rest=>
       obtain⟨i3,rfl,NF,rfl⟩:=hcut;have EP:=zh NF;have Zs:i3<=i2+1:=by omega
       have Zt:i2+1<=i3:=by omega
       clear NF;go_upto_region 12 with (fail)
       go_cut [11] (λvv wx=>∃ j3:Nat,vv=.int .i64 j3/\j3+1=j2/\wx=wc)
       case first=>
        go_wp2_with (fail);go_meet
        case rel=>exact⟨j2-1,by congr 1;omega,by omega,rfl⟩
       case rest=>
        obtain⟨j3,rfl,Zw,rfl⟩:=hcut;have Zx:j3+1<=j2:=by omega
        have Zy:j2<=j3+1:=by omega
        clear Zw
        go_upto_block 4 with (fail)
        go_cut [10,11] (λ_ vv wx=>∃ (j:Nat) (dk:Array Int),vv=.int .i64 j/\j<b/\Sort.partLoop ltInt a i3 j3 d2=(j,dk)/\iK blk n r w dk wx)
        case first=>
         go_wp2;go_loopw [10,11] (λKa vv wr=>∃ (i j:Nat) (dk:Array Int),Ka=.int .i64 i/\vv=.int .i64 j/\a<i/\j<b/\i<=j+2/\Sort.partLoop ltInt a i j dk=Sort.partLoop ltInt a i3 j3 d2/\iK blk n r w dk wr) (λKa vv _=>(RowKit.intOf vv).toNat+2-(RowKit.intOf Ka).toNat)
         case atStart=>exact⟨i3,j3,d2,rfl,rfl,by omega,by omega,by omega,rfl,Vp.o⟩
         case round=>
          obtain⟨ik,jk,dk,rfl,rfl,Eo,Zz,Qr,hE,hS⟩:=hrel;have V6:=zh hS;have nc:=zh hE;clear hS hE
          go_upto_block 6 with (fail)
          go_cut [10] (λs wx=>∃ k:Nat,s=.int .i64 k/\k=Sort.scanUp (λx=>ltInt x dk[a]!) dk jk ik/\iK blk n r w dk wx)
          case first=>
           go_wp2;go_loopw [10] (λs wr=>∃ k:Nat,s=.int .i64 k/\(ik<=k/\k<=jk+2)/\Sort.scanUp (λx=>ltInt x dk[a]!) dk jk k=Sort.scanUp (λx=>ltInt x dk[a]!) dk jk ik/\iK blk n r w dk wr) (λs _=>(jk+2)-(RowKit.intOf s).toNat)
           case atStart=>exact⟨ik,rfl,⟨by omega,by omega⟩,rfl,V6.o⟩
           case round=>
            obtain⟨k,rfl,NH,hE,hS⟩:=hrel;have HE:=zh hE;have HS:=zh hS;clear hE hS;by_cases Hf:k<=jk
            . have hz:(k:Int)<=(jk:Int):=by omega
              have Kx:decide ((k:Int)<=(jk:Int))=true:=by simpa using hz
              have P6:(k:Int)<(n:Int):=by omega
              have ki:(a:Int)<(n:Int):=by omega
              have c0:=HS.o.2.1.cell k (by have:=HS.o.1;omega);have c1:=HS.o.2.1.cell a (by have:=HS.o.1;omega);cases hl:ltInt dk[k]! dk[a]! with
              | true=>
               go_wp2;go_quiet ((go_at_call 94;exact Calls.quiet_of_same (eM _ _ _)));go_wp2;go_roundw
               case rel=>exact⟨k+1,by (first|go_num|(congr 1;omega)),⟨by omega,by omega⟩,by rw[<-HE.o];exact (vU _ dk jk k Hf (by simp[hl])).symm,HS.o.drewN _⟩
               case measure=>(simp[zI]<;>omega)
              | false=>
               go_wp2;go_quiet ((go_at_call 94;exact Calls.quiet_of_same (eM _ _ _)));go_wp2_with (fail);go_meet
               case rel=>exact⟨k,rfl,by rw[<-HE.o];exact (iY _ dk jk k (.inr (by simp[hl]))).symm,HS.o.drewN _⟩
            . have Kx:decide ((k:Int)<=(jk:Int))=false:=by simp;omega
              go_wp2;go_quiet (fail);go_wp2_with (fail);go_meet
              case rel=>exact⟨k,rfl,by rw[<-HE.o];exact (iY _ dk jk k (.inl Hf)).symm,HS.o.drewN _⟩
          case rest=>
           obtain⟨il,rfl,xm,hS⟩:=hcut;have B9:=qV (λx=>ltInt x dk[a]!) dk jk _ ik (zR _);rw[<-xm] at B9;have Mn:=zh xm;clear xm;have XL:=zh hS;clear hS
           go_upto_block 8 with (fail)
           go_cut [11] (λs wx=>∃ k:Nat,s=.int .i64 k/\k=Sort.scanDown (λx=> !ltInt x dk[a]!) dk il jk/\iK blk n r w dk wx)
           case first=>
            go_wp2;go_loopw [11] (λs wr=>∃ k:Nat,s=.int .i64 k/\(k<=jk/\il<=k+2)/\Sort.scanDown (λx=> !ltInt x dk[a]!) dk il k=Sort.scanDown (λx=> !ltInt x dk[a]!) dk il jk/\iK blk n r w dk wr) (λs _=>(RowKit.intOf s).toNat)
            case atStart=>exact⟨jk,rfl,⟨by omega,by omega⟩,rfl,XL.o⟩
            case round=>
             obtain⟨k,rfl,NH,hE,hS⟩:=hrel;have HE:=zh hE;have HS:=zh hS;clear hE hS;by_cases Hf:il<=k
             . have hz:(il:Int)<=(k:Int):=by omega
               have Kx:decide ((il:Int)<=(k:Int))=true:=by simpa using hz
               have P6:(k:Int)<(n:Int):=by omega
               have ki:(a:Int)<(n:Int):=by omega
               have c0:=HS.o.2.1.cell k (by have:=HS.o.1;omega);have c1:=HS.o.2.1.cell a (by have:=HS.o.1;omega);cases hl:ltInt dk[k]! dk[a]! with
               | false=>
                go_wp2;go_quiet ((go_at_call 94;exact Calls.quiet_of_same (eM _ _ _)));go_wp2;go_roundw
                case rel=>exact⟨k-1,by (first|go_num|(congr 1;omega)),⟨by omega,by omega⟩,by rw[<-HE.o];exact (pU _ dk il k Hf (by omega) (by simp[hl])).symm,HS.o.drewN _⟩
                case measure=>(simp[zI]<;>omega)
               | true=>
                go_wp2;go_quiet ((go_at_call 94;exact Calls.quiet_of_same (eM _ _ _)));go_wp2_with (fail);go_meet
                case rel=>exact⟨k,rfl,by rw[<-HE.o];exact (iI _ dk il k (.inr (by simp[hl]))).symm,HS.o.drewN _⟩
             . have Kx:decide ((il:Int)<=(k:Int))=false:=by simp;omega
               go_wp2;go_quiet (fail);go_wp2_with (fail);go_meet
               case rel=>exact⟨k,rfl,by rw[<-HE.o];exact (iI _ dk il k (.inl Hf)).symm,HS.o.drewN _⟩
           case rest=>
            obtain⟨jl,rfl,Yb,hS⟩:=hcut;have dc:=nX (λx=> !ltInt x dk[a]!) dk il jk;rw[<-Yb] at dc;have Mo:=zh Yb;clear Yb;have KK:=zh hS;clear hS;have av:=zh (zd8 a ik jk il jl dk Mn.o Mo.o (by omega));by_cases AZ:jl<il
            . have K6:(jl:Int)<(il:Int):=by omega
              go_wp2_with (fail);go_meet
              case rel=>exact⟨jl,dk,rfl,by omega,by rw[<-nc.o,av.o,zP AZ],KK.o⟩
            . have K6:¬ (jl:Int)<(il:Int):=by omega
              obtain⟨dn,Ej⟩:=zE (swp dk il jl);have BN:=zh Ej;clear Ej;go_upto_region 18 with (fail);have c0:=KK.o.2.1.cell il (by have:=KK.o.1;omega);have c1:=KK.o.2.1.cell jl (by have:=KK.o.1;omega);have YM:=KK.o.2.1.free il;have QT:=KK.o.2.1.free jl;go_cut [] (λwx=>iK blk n r w dn wx)
              case first=>
               by_cases heq:il=jl
               . subst heq
                 clear c1 QT
                 go_region
                 all_goals (go_wp2_with (fail);go_meet)
                 case rel=>rw[BN.o];exact (KK.o.drewN _).swap il il (by omega) (by omega)
               have Px:¬ jl=il:=λe=>heq e.symm
               go_region
               all_goals (go_wp2_with (fail);go_meet)
               case rel=>rw[BN.o];exact (KK.o.drewN _).swap il jl (by omega) (by omega)
              rotate_left 0
              case rest=>
               have mw:=zh hcut;clear hcut c0 c1 YM QT;go_wp2;go_roundw
               case rel=>exact⟨il+1,jl-1,dn,by go_num,by congr 1;omega,by omega,by omega,by omega,by rw[<-nc.o,av.o,zN AZ,BN.o],mw.o⟩
               case measure=>(simp[zI]<;>omega)
        case rest=>
         obtain⟨jf,df,rfl,hjf,FD,hS⟩:=hcut;have CO:=zh hS;have av:=zh FD;clear hS FD;obtain⟨d5,Sm⟩:=zE (swp df jf a);have Mm:=zh Sm;clear Sm;go_upto_region 21 with (fail);have c0:=CO.o.2.1.cell jf (by have:=CO.o.1;omega);have c1:=CO.o.2.1.cell a (by have:=CO.o.1;omega);have YM:=CO.o.2.1.free jf;have QT:=CO.o.2.1.free a;go_cut [] (λwx=>iK blk n r w d5 wx)
         case first=>
          by_cases heq:jf=a
          . subst heq
            clear c1 QT
            go_region
            all_goals (go_wp2_with (fail);go_meet)
            case rel=>rw[Mm.o];exact (CO.o.drewN _).swap jf jf (by omega) (by omega)
          have Px:¬ a=jf:=λe=>heq e.symm
          go_region
          all_goals (go_wp2_with (fail);go_meet)
          case rel=>rw[Mm.o];exact (CO.o.drewN _).swap jf a (by omega) (by omega)
         rotate_left 0
         case rest=>
          have TA:=zh hcut;clear hcut c0 c1 YM QT;go_wp2
          go_ret2
          have e3:Sort.partition ltInt d a b pv=(jf,false,d5):=by
           have ei:i2+1=i3:=EP.o.symm;have ej:j2-1=j3:=by omega
           rw[II.o,zN d7,<-BM.o,ei,ej,av.o,Mm.o]
          unfold PtO;rw[JM.o,e3];exact⟨rfl,TA.o⟩
end
section
open Go.RowKit Go.Lib
open Go.Sort (swp ltInt)
def PeO (PT:Nat×Array Int) (blk n:Nat) (r:List Value) (w:World) (e:Ending) (w':World):Prop:=e=.returned (.int .i64 PT.1)/\iK blk n r w PT.2 w'
theorem yF (blk n cap a b pv:Nat) (r:List Value) (d:Array Int) (w:World) (hR:dQ w blk d r) (hn:d.size=n) (Ja:a<=pv) (PB:pv<b) (hb:b<=n) (Qc:n<1000000000):
 Calls Tryz.prog 121 #[.slice (some ⟨blk,0,none⟩) n cap,.int .i64 a,.int .i64 b,.int .i64 pv] w (PeO (Sort.partitionEqual ltInt d a b pv) blk n r w):=by
 have FL:(a:Int)<b:=by omega
 have TN:(pv:Int)<n:=by omega
 have Vf:(a:Int)<=pv:=by omega
 have Ov:(pv:Int)<b:=by omega
 have Vc:=zh (iK.refl (w:=w) hR hn);clear hR hn;obtain⟨PT,Aw⟩:=zE (Sort.partitionEqual ltInt d a b pv);have JM:=zh Aw;rw[<-Aw];clear Aw;go_enter Tryz.func121,Tryz.ntmps121;obtain⟨d1,Xq⟩:=zE (swp d a pv);have TE:=zh Xq;clear Xq;go_upto_region 1 with (fail)
 have c0:=Vc.o.2.1.cell a (by have:=Vc.o.1;omega);have c1:=Vc.o.2.1.cell pv (by have:=Vc.o.1;omega);have YM:=Vc.o.2.1.free a;have QT:=Vc.o.2.1.free pv;go_cut [] (λwx=>iK blk n r w d1 wx)
 case first=>
  by_cases heq:a=pv
  . subst heq
    clear c1 QT
    go_region
    all_goals (go_wp2_with (fail);go_meet)
    case rel=>rw[TE.o];exact (Vc.o.drewN _).swap a a (by omega) (by omega)
  have Px:¬ pv=a:=λe=>heq e.symm
  go_region
  all_goals (go_wp2_with (fail);go_meet)
  case rel=>rw[TE.o];exact (Vc.o.drewN _).swap a pv (by omega) (by omega)
 rotate_left 0
 case rest=>
  have Ye:=zh hcut;clear hcut c0 c1 YM QT;go_upto_region 2 with (fail)
  go_cut [9,10] (λKa vv wx=>∃ i1 j1:Nat,Ka=.int .i64 i1/\vv=.int .i64 j1/\i1=a+1/\j1+1=b/\wx=wc)
  case first=>
   go_wp2_with (fail);go_meet
   case rel=>exact⟨a+1,b-1,by go_num,by congr 1;omega,rfl,by omega,rfl⟩
  case rest=>
   obtain⟨i1,j1,rfl,rfl,d9,o6,rfl⟩:=hcut;have PN:=zh d9;have Zq:i1<=a+1:=by omega
   have Zr:a+1<=i1:=by omega
   clear d9
   go_upto_block 0 with (fail)
   go_cut [9,10] (λs9 _ wx=>∃ (i:Nat) (dk:Array Int),s9=.int .i64 i/\Sort.partEqLoop ltInt a i1 j1 d1=(i,dk)/\iK blk n r w dk wx)
   case first=>
    go_wp2;go_loopw [9,10] (λKa vv wr=>∃ (i j:Nat) (dk:Array Int),Ka=.int .i64 i/\vv=.int .i64 j/\a<i/\j<b/\i<=j+2/\Sort.partEqLoop ltInt a i j dk=Sort.partEqLoop ltInt a i1 j1 d1/\iK blk n r w dk wr) (λKa vv _=>(RowKit.intOf vv).toNat+2-(RowKit.intOf Ka).toNat)
    case atStart=>exact⟨i1,j1,d1,rfl,rfl,by omega,by omega,by omega,rfl,Ye.o⟩
    case round=>
     obtain⟨ik,jk,dk,rfl,rfl,Eo,Zz,Qr,hE,hS⟩:=hrel;have V6:=zh hS;have nc:=zh hE;clear hS hE
     go_upto_block 2 with (fail)
     go_cut [9] (λs wx=>∃ k:Nat,s=.int .i64 k/\k=Sort.scanUp (λx=> !ltInt dk[a]! x) dk jk ik/\iK blk n r w dk wx)
     case first=>
      go_wp2;go_loopw [9] (λs wr=>∃ k:Nat,s=.int .i64 k/\(ik<=k/\k<=jk+2)/\Sort.scanUp (λx=> !ltInt dk[a]! x) dk jk k=Sort.scanUp (λx=> !ltInt dk[a]! x) dk jk ik/\iK blk n r w dk wr) (λs _=>(jk+2)-(RowKit.intOf s).toNat)
      case atStart=>exact⟨ik,rfl,⟨by omega,by omega⟩,rfl,V6.o⟩
      case round=>
       obtain⟨k,rfl,NH,hE,hS⟩:=hrel;have HE:=zh hE;have HS:=zh hS;clear hE hS;by_cases Hf:k<=jk
       . have hz:(k:Int)<=(jk:Int):=by omega
         have Kx:decide ((k:Int)<=(jk:Int))=true:=by simpa using hz
         have P6:(k:Int)<(n:Int):=by omega
         have ki:(a:Int)<(n:Int):=by omega
         have c0:=HS.o.2.1.cell k (by have:=HS.o.1;omega);have c1:=HS.o.2.1.cell a (by have:=HS.o.1;omega);cases hl:ltInt dk[a]! dk[k]! with
         | false=>
          go_wp2;go_quiet ((go_at_call 94;exact Calls.quiet_of_same (eM _ _ _)));go_wp2;go_roundw
          case rel=>exact⟨k+1,by (first|go_num|(congr 1;omega)),⟨by omega,by omega⟩,by rw[<-HE.o];exact (vU _ dk jk k Hf (by simp[hl])).symm,HS.o.drewN _⟩
          case measure=>(simp[zI]<;>omega)
         | true=>
          go_wp2;go_quiet ((go_at_call 94;exact Calls.quiet_of_same (eM _ _ _)));go_wp2_with (fail);go_meet
          case rel=>exact⟨k,rfl,by rw[<-HE.o];exact (iY _ dk jk k (.inr (by simp[hl]))).symm,HS.o.drewN _⟩
       . have Kx:decide ((k:Int)<=(jk:Int))=false:=by simp;omega
         go_wp2;go_quiet (fail);go_wp2_with (fail);go_meet
         case rel=>exact⟨k,rfl,by rw[<-HE.o];exact (iY _ dk jk k (.inl Hf)).symm,HS.o.drewN _⟩
     case rest=>
      obtain⟨il,rfl,xm,hS⟩:=hcut;have B9:=qV (λx=> !ltInt dk[a]! x) dk jk _ ik (zR _);rw[<-xm] at B9;have Mn:=zh xm;clear xm;have XL:=zh hS;clear hS
      go_upto_block 4 with (fail)
      go_cut [10] (λs wx=>∃ k:Nat,s=.int .i64 k/\k=Sort.scanDown (λx=>ltInt dk[a]! x) dk il jk/\iK blk n r w dk wx)
      case first=>
       go_wp2;go_loopw [10] (λs wr=>∃ k:Nat,s=.int .i64 k/\(k<=jk/\il<=k+2)/\Sort.scanDown (λx=>ltInt dk[a]! x) dk il k=Sort.scanDown (λx=>ltInt dk[a]! x) dk il jk/\iK blk n r w dk wr) (λs _=>(RowKit.intOf s).toNat)
       case atStart=>exact⟨jk,rfl,⟨by omega,by omega⟩,rfl,XL.o⟩
       case round=>
        obtain⟨k,rfl,NH,hE,hS⟩:=hrel;have HE:=zh hE;have HS:=zh hS;clear hE hS;by_cases Hf:il<=k
        . have hz:(il:Int)<=(k:Int):=by omega
          have Kx:decide ((il:Int)<=(k:Int))=true:=by simpa using hz
          have P6:(k:Int)<(n:Int):=by omega
          have ki:(a:Int)<(n:Int):=by omega
          have c0:=HS.o.2.1.cell k (by have:=HS.o.1;omega);have c1:=HS.o.2.1.cell a (by have:=HS.o.1;omega);cases hl:ltInt dk[a]! dk[k]! with
          | true=>
           go_wp2;go_quiet ((go_at_call 94;exact Calls.quiet_of_same (eM _ _ _)));go_wp2;go_roundw
           case rel=>exact⟨k-1,by (first|go_num|(congr 1;omega)),⟨by omega,by omega⟩,by rw[<-HE.o];exact (pU _ dk il k Hf (by omega) (by simp[hl])).symm,HS.o.drewN _⟩
           case measure=>(simp[zI]<;>omega)
          | false=>
           go_wp2;go_quiet ((go_at_call 94;exact Calls.quiet_of_same (eM _ _ _)));go_wp2_with (fail);go_meet
           case rel=>exact⟨k,rfl,by rw[<-HE.o];exact (iI _ dk il k (.inr (by simp[hl]))).symm,HS.o.drewN _⟩
        . have Kx:decide ((il:Int)<=(k:Int))=false:=by simp;omega
          go_wp2;go_quiet (fail);go_wp2_with (fail);go_meet
          case rel=>exact⟨k,rfl,by rw[<-HE.o];exact (iI _ dk il k (.inl Hf)).symm,HS.o.drewN _⟩
      case rest=>
       obtain⟨jl,rfl,Yb,hS⟩:=hcut;have dc:=nX (λx=>ltInt dk[a]! x) dk il jk;rw[<-Yb] at dc;have Mo:=zh Yb;clear Yb;have KK:=zh hS;clear hS;have av:=zh (zcl a ik jk il jl dk Mn.o Mo.o (by omega));by_cases AZ:jl<il
       . have K6:(jl:Int)<(il:Int):=by omega
         go_wp2_with (fail);go_meet
         case rel=>exact⟨il,dk,rfl,by rw[<-nc.o,av.o,zP AZ],KK.o⟩
       . have K6:¬ (jl:Int)<(il:Int):=by omega
         obtain⟨dn,Ej⟩:=zE (swp dk il jl);have BN:=zh Ej;clear Ej;go_upto_region 8 with (fail);have c0:=KK.o.2.1.cell il (by have:=KK.o.1;omega);have c1:=KK.o.2.1.cell jl (by have:=KK.o.1;omega);have YM:=KK.o.2.1.free il;have QT:=KK.o.2.1.free jl;go_cut [] (λwx=>iK blk n r w dn wx)
         case first=>
          by_cases heq:il=jl
          . subst heq
            clear c1 QT
            go_region
            all_goals (go_wp2_with (fail);go_meet)
            case rel=>rw[BN.o];exact (KK.o.drewN _).swap il il (by omega) (by omega)
          have Px:¬ jl=il:=λe=>heq e.symm
          go_region
          all_goals (go_wp2_with (fail);go_meet)
          case rel=>rw[BN.o];exact (KK.o.drewN _).swap il jl (by omega) (by omega)
         rotate_left 0
         case rest=>
          have mw:=zh hcut;clear hcut c0 c1 YM QT;go_wp2;go_roundw
          case rel=>exact⟨il+1,jl-1,dn,by go_num,by congr 1;omega,by omega,by omega,by omega,by rw[<-nc.o,av.o,zN AZ,BN.o],mw.o⟩
          case measure=>(simp[zI]<;>omega)
   case rest=>
    obtain⟨jf,df,rfl,FD,hS⟩:=hcut;have CO:=zh hS;have av:=zh FD;clear hS FD;go_wp2;go_ret;have e3:Sort.partitionEqual ltInt d a b pv=(jf,df):=by
     have ej:j1=b-1:=by omega
     unfold Sort.partitionEqual;rw[<-TE.o,<-PN.o,<-ej,av.o]
    unfold PeO;rw[JM.o,e3];exact⟨rfl,CO.o⟩
end
section
open Go.RowKit Go.Lib
open Go.Sort (swp ltInt)
theorem xN (d:Array Int) (b i:Nat) (h:i<b) (hp:ltInt d[i]! d[i-1]! =false):Sort.scanSorted ltInt d b i=Sort.scanSorted ltInt d b (i+1):=by
 rw[Sort.scanSorted,zP (by simp[h,hp])]
theorem kR (d:Array Int) (b i:Nat) (h:¬ i<b\/ltInt d[i]! d[i-1]! =true):Sort.scanSorted ltInt d b i=i:=by
 rw[Sort.scanSorted,zN]
 rcases h with h|h<;>simp[h]
theorem zcp (d:Array Int) (b:Nat):∀ (n i:Nat),b-i<=n->i<=b->i<=Sort.scanSorted ltInt d b i/\Sort.scanSorted ltInt d b i<=b:=by
 intro n
 induction n with
 | zero=>intro i h hi;rw[kR d b i (.inl (by omega))];omega
 | succ n ih=>
  intro i h hi;by_cases hc:i<b/\ltInt d[i]! d[i-1]! =false
  . rw[xN d b i hc.1 hc.2]
    have:=ih (i+1) (by omega) (by omega);omega
  rw[kR d b i (by by_cases h1:i<b<;>simp_all)];omega
theorem zdu (j:Nat) (d:Array Int) (hj:0<j) (h:ltInt d[j]! d[j-1]! =true):Sort.shiftDown ltInt j d=Sort.shiftDown ltInt (j-1) (swp d j (j-1)):=by
 obtain⟨j,rfl⟩:∃ k,j=k+1:=⟨j-1,by omega⟩;simp only[Nat.add_sub_cancel] at h;rw[Sort.shiftDown,zN (by simp[h])];rfl
theorem uV (j:Nat) (d:Array Int) (h:j=0\/ltInt d[j]! d[j-1]! =false):Sort.shiftDown ltInt j d=d:=by
 cases j with
 | zero=>rfl
 | succ j=>
  rcases h with h|h
  . cases h
  simp only[Nat.add_sub_cancel] at h
  rw[Sort.shiftDown,zP (by simp[h])]
theorem yP (b j:Nat) (d:Array Int) (hj:j<b) (h:ltInt d[j]! d[j-1]! =true):Sort.shiftUp ltInt b j d=Sort.shiftUp ltInt b (j+1) (swp d j (j-1)):=by
 rw[Sort.shiftUp,zP hj,zN (by simp[h])]
theorem jZ (b j:Nat) (d:Array Int) (h:¬ j<b\/ltInt d[j]! d[j-1]! =false):Sort.shiftUp ltInt b j d=d:=by
 rw[Sort.shiftUp]
 rcases h with h|h
 . rw[zN h]
 split
 . rw[zP (by simp[h])]
 rfl
def PiO (PT:Array Int×Bool) (blk n:Nat) (r:List Value) (w:World) (e:Ending) (w':World):Prop:=e=.returned (.bool PT.2)/\iK blk n r w PT.1 w'
theorem uM (blk n cap a b:Nat) (r:List Value) (d:Array Int) (w:World) (hR:dQ w blk d r) (hn:d.size=n) (Xz:a<b) (hb:b<=n) (Qc:n<1000000000):
 Calls Tryz.prog 120 #[.slice (some ⟨blk,0,none⟩) n cap,.int .i64 a,.int .i64 b] w (PiO (Sort.partialInsertionSort ltInt d a b) blk n r w):=by
 have Vc:=zh (iK.refl (w:=w) hR hn);unfold Sort.partialInsertionSort;obtain⟨PT,Aw⟩:=zE (Sort.partialIns ltInt a b 5 (a+1) d);have JM:=zh Aw;rw[<-Aw];clear hR hn Aw;have hwab:IntKind.i64.wrap ((b:Int)-(a:Int))=(b:Int)-(a:Int):=zIn _ (by omega);go_enter Tryz.func120,Tryz.ntmps120;go_wp2
 go_loopw [7,8] (λs7 s8 wr=>∃ (ik jk:Nat) (dk:Array Int),s7=.int .i64 ik/\s8=.int .i64 jk/\a+1<=ik/\ik<=b/\jk<=5/\PT=Sort.partialIns ltInt a b (5-jk) ik dk/\iK blk n r w dk wr) (λ_ s8 _=>5-(RowKit.intOf s8).toNat)
 case atStart=>exact⟨a+1,0,d,by go_num,rfl,by omega,by omega,by omega,JM.o,Vc.o⟩
 case round=>
  obtain⟨ik,jk,dk,rfl,rfl,Eo,Gr,hj5,hE,hS⟩:=hrel;have V6:=zh hS;have nc:=zh hE;clear hS hE;by_cases hj:jk<5;rotate_left
  . have hz:¬ (jk:Int)<5:=by omega
    go_wp2;go_ret;have h5:5-jk=0:=by omega
    unfold PiO;rw[nc.o,h5];exact⟨rfl,V6.o⟩
  have hz:(jk:Int)<5:=by omega
  have HEq:=zh (show PT=Sort.partialIns ltInt a b ((5-(jk+1))+1) ik dk by rw[nc.o];congr 1;omega);rw[Sort.partialIns_succ] at HEq
  go_upto_block 2 with (fail)
  go_cut [7] (λs wx=>∃ k:Nat,s=.int .i64 k/\k=Sort.scanSorted ltInt dk b ik/\iK blk n r w dk wx)
  case first=>
   go_wp2;go_loopw [7] (λs wr=>∃ k:Nat,s=.int .i64 k/\ik<=k/\k<=b/\Sort.scanSorted ltInt dk b k=Sort.scanSorted ltInt dk b ik/\iK blk n r w dk wr) (λs _=>b-(RowKit.intOf s).toNat)
   case atStart=>exact⟨ik,rfl,zR _,Gr,rfl,V6.o⟩
   case round=>
    obtain⟨k,rfl,Kl,yi,hE,hS⟩:=hrel;have HE:=zh hE;have HS:=zh hS;clear hE hS;by_cases Hf:k<b
    . have hz:(k:Int)<(b:Int):=by omega
      have Kx:decide ((k:Int)<(b:Int))=true:=by simpa using hz
      have P6:(k:Int)<(n:Int):=by omega
      obtain⟨p,hp⟩:=zE (k-1);have hw:IntKind.i64.wrap ((k:Int)-1)=(p:Int):=by rw[zIn _ (by omega)];omega
      have TN:(p:Int)<(n:Int):=by omega
      have ym:=xN dk b k Hf;have Hl:=kR dk b k;rw[<-hp] at ym Hl;have jr:=zh ym;have Hq:=zh Hl;have c0:=HS.o.2.1.cell k (by have:=HS.o.1;omega);have c1:=HS.o.2.1.cell p (by have:=HS.o.1;omega);clear hp ym Hl;cases hl:ltInt dk[k]! dk[p]! with
      | false=>
       go_wp2;go_quiet ((go_at_call 94;exact Calls.quiet_of_same (eM _ _ _)));go_wp2;go_roundw
       case rel=>exact⟨k+1,by go_num,by omega,by omega,by rw[<-HE.o];exact (jr.o hl).symm,HS.o.drewN _⟩
       case measure=>(simp[zI]<;>omega)
      | true=>
       go_wp2;go_quiet ((go_at_call 94;exact Calls.quiet_of_same (eM _ _ _)));go_wp2_with (fail);go_meet
       case rel=>exact⟨k,rfl,by rw[<-HE.o];exact (Hq.o (.inr hl)).symm,HS.o.drewN _⟩
    . have Kx:decide ((k:Int)<(b:Int))=false:=by simp;omega
      go_wp2;go_quiet (fail);go_wp2_with (fail);go_meet
      case rel=>exact⟨k,rfl,by rw[<-HE.o];exact (kR dk b k (.inl Hf)).symm,HS.o.drewN _⟩
  case rest=>
   obtain⟨i,rfl,hi,hS⟩:=hcut;have XL:=zh hS;have Zu:=zcp dk b _ ik (zR _) Gr;have JH:=zh HEq.o;have Hi:=zh hi;rw[<-hi] at Zu;clear hS hi HEq;by_cases Jm:i=b
   . have Iq:((i:Int)==(b:Int))=true:=by simp[Jm]
     have Fo:PT=(dk,true):=by rw[JH.o,<-Hi.o,zP Jm]
     have jq:=zh Fo;clear Jm Fo;go_wp2;go_ret;unfold PiO;rw[jq.o];exact⟨rfl,XL.o⟩
   have Iq:((i:Int)==(b:Int))=false:=by simp;omega
   by_cases Mp:b-a<50
   . have K6:(b:Int)-(a:Int)<50:=by omega
     have Fo:PT=(dk,false):=by rw[JH.o,<-Hi.o,zN Jm,zP Mp]
     have jq:=zh Fo;clear Fo;go_wp2;go_ret;unfold PiO;rw[jq.o];exact⟨rfl,XL.o⟩
   have K6:¬ (b:Int)-(a:Int)<50:=by omega
   have jq:zH (PT=Sort.partialIns ltInt a b (5-(jk+1)) i (Sort.fixUp ltInt b i (Sort.fixDown ltInt a i (swp dk i (i-1))))):=zh (by rw[JH.o,<-Hi.o,zN Jm,zN Mp]);obtain⟨p,hp⟩:=zE (i-1);have hw:IntKind.i64.wrap ((i:Int)-1)=(p:Int):=by rw[zIn _ (by omega)];omega
   have Xh:(i:Int)<(n:Int):=by omega
   have TN:(p:Int)<(n:Int):=by omega
   have Ju:p<i:=by omega
   have ZY:i<=p+1:=by omega
   have Hp:=zh hp;clear hp JH;obtain⟨d1,Xq⟩:=zE (swp dk i p);have TE:=zh Xq;clear Xq;go_upto_region 11 with (fail)
   have c0:=XL.o.2.1.cell i (by have:=XL.o.1;omega);have c1:=XL.o.2.1.cell p (by have:=XL.o.1;omega);have YM:=XL.o.2.1.free i;have QT:=XL.o.2.1.free p;go_cut [] (λwx=>iK blk n r w d1 wx)
   case first=>
    go_region
    all_goals (go_wp2_with (fail);go_meet)
    case rel=>rw[TE.o];exact (XL.o.drewN _).swap i p (by omega) (by omega)
   case rest=>
    have Ye:=zh hcut;clear hcut c0 c1 YM QT;obtain⟨ia,SC⟩:=zE (i-a);have Ii:IntKind.i64.wrap ((i:Int)-(a:Int))=(ia:Int):=by rw[zIn _ (by omega)];omega
    have bj:(i:Int)-(a:Int)=(ia:Int):=by omega
    have RD:=zh SC;clear SC;obtain⟨dF,Sn⟩:=zE (Sort.fixDown ltInt a i d1);have Fc:=zh Sn;clear Sn;by_cases h2:ia≥2
    . have J4:(2:Int)<=(ia:Int):=by omega
      have HF:zH (dF=Sort.shiftDown ltInt p d1):=zh (by rw[Fc.o];unfold Sort.fixDown;rw[zP (by rw[<-RD.o];exact h2),Hp.o]);clear h2;have Wu:zH ((i:Int)-1=(p:Int)):=zh (by omega);go_wp2;go_loopw [9] (λs wr=>∃ (k:Nat) (dl:Array Int),s=.int .i64 k/\k<=p/\Sort.shiftDown ltInt k dl=dF/\iK blk n r w dl wr) (λs _=>(RowKit.intOf s).toNat)
      case atStart=>exact⟨p,d1,by first|rfl|rw[Wu.o],zR _,HF.o.symm,Ye.o⟩
      case round=>
       obtain⟨k,dl,rfl,K1,hE,hS⟩:=hrel;have HE:=zh hE;have HS:=zh hS;clear hE hS;by_cases XU:1<=k
       . have Cx:(1:Int)<=(k:Int):=by omega
         obtain⟨q,hq⟩:=zE (k-1);have X9:IntKind.i64.wrap ((k:Int)-1)=(q:Int):=by rw[zIn _ (by omega)];omega
         have P6:(k:Int)<(n:Int):=by omega
         have C9:(q:Int)<(n:Int):=by omega
         have ym:=zdu k dl (by omega);have Hl:=uV k dl;rw[<-hq] at ym Hl;have jr:=zh ym;have Hq:=zh Hl;have OD:q<k:=by omega
         have Z2:k<=q+1:=by omega
         have c0:=HS.o.2.1.cell k (by have:=HS.o.1;omega);have c1:=HS.o.2.1.cell q (by have:=HS.o.1;omega);clear hq ym Hl;cases hl:ltInt dl[k]! dl[q]! with
         | false=>
          go_wp2;go_quiet ((go_at_call 94;exact Calls.quiet_of_same (eM _ _ _)));have ec:iK blk n r w dF (wr.drewN nq):=by rw[<-HE.o,Hq.o (.inr hl)];exact HS.o.drewN _
          generalize wr.drewN nq=wq at ec ⊢;clear c0 c1 HS HE jr Hq X9 Ii bj hl;obtain⟨bi,ko⟩:=zE (b-i);have Ih:IntKind.i64.wrap ((b:Int)-(i:Int))=(bi:Int):=by rw[zIn _ (by omega)];omega
          have N9:(b:Int)-(i:Int)=(bi:Int):=by omega
          have Nk:=zh ko;clear ko;have T7:zH (PT=Sort.partialIns ltInt a b (5-(jk+1)) i (Sort.fixUp ltInt b i dF)):=zh (by rw[jq.o,<-Hp.o,<-TE.o,<-Fc.o]);have Ag:=ec;by_cases h2:bi≥2
          . have J4:(2:Int)<=(bi:Int):=by omega
            have HF:zH (Sort.fixUp ltInt b i dF=Sort.shiftUp ltInt b (i+1) dF):=zh (by unfold Sort.fixUp;rw[zP (by rw[<-Nk.o];exact h2)]);clear h2;generalize Sort.fixUp ltInt b i dF=dG at*;go_wp2;go_loopw [10] (λs wr=>∃ (k:Nat) (dl:Array Int),s=.int .i64 k/\i<k/\k<=b/\Sort.shiftUp ltInt b k dl=dG/\iK blk n r w dl wr) (λs _=>b-(RowKit.intOf s).toNat)
            case atStart=>exact⟨i+1,dF,by go_num,by omega,by omega,HF.o.symm,Ag⟩
            case round=>
             obtain⟨k,dl,rfl,Gy,Gx,hE,hS⟩:=hrel;have HE:=zh hE;have HS:=zh hS;clear hE hS;by_cases A3:k<b
             . have Cx:(k:Int)<(b:Int):=by omega
               obtain⟨q,hq⟩:=zE (k-1);have X9:IntKind.i64.wrap ((k:Int)-1)=(q:Int):=by rw[zIn _ (by omega)];omega
               have P6:(k:Int)<(n:Int):=by omega
               have C9:(q:Int)<(n:Int):=by omega
               have ym:=yP b k dl A3;have Hl:=jZ b k dl;rw[<-hq] at ym Hl;have jr:=zh ym;have Hq:=zh Hl;have OD:q<k:=by omega
               have c0:=HS.o.2.1.cell k (by have:=HS.o.1;omega);have c1:=HS.o.2.1.cell q (by have:=HS.o.1;omega);clear hq ym Hl;cases hl:ltInt dl[k]! dl[q]! with
               | false=>
                go_wp2;go_quiet ((go_at_call 94;exact Calls.quiet_of_same (eM _ _ _)));go_wp2;go_roundw
                case rel=>exact⟨i,jk+1,_,rfl,by go_num,by omega,by omega,by omega,by rw[T7.o,<-HE.o,Hq.o (.inr hl)],HS.o.drewN _⟩
                case measure=>(simp[zI]<;>omega)
               | true=>
                go_wp2;go_quiet ((go_at_call 94;exact Calls.quiet_of_same (eM _ _ _)));have YS:=zh (HS.o.drewN nq);generalize wr.drewN nq=wq at YS ⊢;clear c0 c1 HS;have c0:=YS.o.2.1.cell k (by have:=YS.o.1;omega);have c1:=YS.o.2.1.cell q (by have:=YS.o.1;omega);have YM:=YS.o.2.1.free k;have QT:=YS.o.2.1.free q;go_wp2
                go_region
                all_goals go_wp2
                all_goals go_roundw
                case rel=>exact⟨k+1,swp dl k q,by go_num,by omega,by omega,by rw[<-HE.o,jr.o hl],(YS.o.drewN _).swap k q (by omega) (by omega)⟩
                case measure=>(simp[zI]<;>omega)
             have Cx:¬ (k:Int)<(b:Int):=by omega
             go_wp2;go_roundw
             case rel=>exact⟨i,jk+1,_,rfl,by go_num,by omega,by omega,by omega,by rw[T7.o,<-HE.o,jZ b k dl (.inl (by omega))],HS.o⟩
             case measure=>(simp[zI]<;>omega)
          . have J4:¬ (2:Int)<=(bi:Int):=by omega
            have HF:zH (Sort.fixUp ltInt b i dF=dF):=zh (by unfold Sort.fixUp;rw[zN (by rw[<-Nk.o];exact h2)]);clear h2;generalize Sort.fixUp ltInt b i dF=dG at*;go_wp2;go_roundw
            case rel=>exact⟨i,jk+1,_,rfl,by go_num,by omega,by omega,by omega,by rw[T7.o,HF.o],Ag⟩
            case measure=>(simp[zI]<;>omega)
         | true=>
          go_wp2;go_quiet ((go_at_call 94;exact Calls.quiet_of_same (eM _ _ _)));have YS:=zh (HS.o.drewN nq);generalize wr.drewN nq=wq at YS ⊢;clear c0 c1 HS;have c0:=YS.o.2.1.cell k (by have:=YS.o.1;omega);have c1:=YS.o.2.1.cell q (by have:=YS.o.1;omega);have YM:=YS.o.2.1.free k;have QT:=YS.o.2.1.free q;go_wp2
          go_region
          all_goals go_wp2
          all_goals go_roundw
          case rel=>exact⟨q,swp dl k q,by first|rfl|(congr 1;omega),by omega,by rw[<-HE.o,jr.o hl],(YS.o.drewN _).swap k q (by omega) (by omega)⟩
          case measure=>(simp[zI]<;>omega)
       have Cx:¬ (1:Int)<=(k:Int):=by omega
       have ec:iK blk n r w dF wr:=by rw[<-HE.o,uV k dl (.inl (by omega))];exact HS.o
       clear HS HE Ii bj;obtain⟨bi,ko⟩:=zE (b-i);have Ih:IntKind.i64.wrap ((b:Int)-(i:Int))=(bi:Int):=by rw[zIn _ (by omega)];omega
       have N9:(b:Int)-(i:Int)=(bi:Int):=by omega
       have Nk:=zh ko;clear ko;have T7:zH (PT=Sort.partialIns ltInt a b (5-(jk+1)) i (Sort.fixUp ltInt b i dF)):=zh (by rw[jq.o,<-Hp.o,<-TE.o,<-Fc.o]);have Ag:=ec;by_cases h2:bi≥2
       . have J4:(2:Int)<=(bi:Int):=by omega
         have HF:zH (Sort.fixUp ltInt b i dF=Sort.shiftUp ltInt b (i+1) dF):=zh (by unfold Sort.fixUp;rw[zP (by rw[<-Nk.o];exact h2)]);clear h2;generalize Sort.fixUp ltInt b i dF=dG at*;go_wp2;go_loopw [10] (λs wr=>∃ (k:Nat) (dl:Array Int),s=.int .i64 k/\i<k/\k<=b/\Sort.shiftUp ltInt b k dl=dG/\iK blk n r w dl wr) (λs _=>b-(RowKit.intOf s).toNat)
         case atStart=>exact⟨i+1,dF,by go_num,by omega,by omega,HF.o.symm,Ag⟩
         case round=>
          obtain⟨k,dl,rfl,Gy,Gx,hE,hS⟩:=hrel;have HE:=zh hE;have HS:=zh hS;clear hE hS;by_cases A3:k<b
          . have Cx:(k:Int)<(b:Int):=by omega
            obtain⟨q,hq⟩:=zE (k-1);have X9:IntKind.i64.wrap ((k:Int)-1)=(q:Int):=by rw[zIn _ (by omega)];omega
            have P6:(k:Int)<(n:Int):=by omega
            have C9:(q:Int)<(n:Int):=by omega
            have ym:=yP b k dl A3;have Hl:=jZ b k dl;rw[<-hq] at ym Hl;have jr:=zh ym;have Hq:=zh Hl;have OD:q<k:=by omega
            have c0:=HS.o.2.1.cell k (by have:=HS.o.1;omega);have c1:=HS.o.2.1.cell q (by have:=HS.o.1;omega);clear hq ym Hl;cases hl:ltInt dl[k]! dl[q]! with
            | false=>
             go_wp2;go_quiet ((go_at_call 94;exact Calls.quiet_of_same (eM _ _ _)));go_wp2;go_roundw
             case rel=>exact⟨i,jk+1,_,rfl,by go_num,by omega,by omega,by omega,by rw[T7.o,<-HE.o,Hq.o (.inr hl)],HS.o.drewN _⟩
             case measure=>(simp[zI]<;>omega)
            | true=>
             go_wp2;go_quiet ((go_at_call 94;exact Calls.quiet_of_same (eM _ _ _)));have YS:=zh (HS.o.drewN nq);generalize wr.drewN nq=wq at YS ⊢;clear c0 c1 HS;have c0:=YS.o.2.1.cell k (by have:=YS.o.1;omega);have c1:=YS.o.2.1.cell q (by have:=YS.o.1;omega);have YM:=YS.o.2.1.free k;have QT:=YS.o.2.1.free q;go_wp2
             go_region
             all_goals go_wp2
             all_goals go_roundw
             case rel=>exact⟨k+1,swp dl k q,by go_num,by omega,by omega,by rw[<-HE.o,jr.o hl],(YS.o.drewN _).swap k q (by omega) (by omega)⟩
             case measure=>(simp[zI]<;>omega)
          have Cx:¬ (k:Int)<(b:Int):=by omega
          go_wp2;go_roundw
          case rel=>exact⟨i,jk+1,_,rfl,by go_num,by omega,by omega,by omega,by rw[T7.o,<-HE.o,jZ b k dl (.inl (by omega))],HS.o⟩
          case measure=>(simp[zI]<;>omega)
       have J4:¬ (2:Int)<=(bi:Int):=by omega
       have HF:zH (Sort.fixUp ltInt b i dF=dF):=zh (by unfold Sort.fixUp;rw[zN (by rw[<-Nk.o];exact h2)]);clear h2;generalize Sort.fixUp ltInt b i dF=dG at*;go_wp2;go_roundw
       case rel=>exact⟨i,jk+1,_,rfl,by go_num,by omega,by omega,by omega,by rw[T7.o,HF.o],Ag⟩
       case measure=>(simp[zI]<;>omega)
    have J4:¬ (2:Int)<=(ia:Int):=by omega
    have HF:zH (dF=d1):=zh (by rw[Fc.o];unfold Sort.fixDown;rw[zN (by rw[<-RD.o];exact h2)]);clear h2;have ec:iK blk n r w dF wc:=by rw[HF.o];exact Ye.o
    obtain⟨bi,ko⟩:=zE (b-i);have Ih:IntKind.i64.wrap ((b:Int)-(i:Int))=(bi:Int):=by rw[zIn _ (by omega)];omega
    have N9:(b:Int)-(i:Int)=(bi:Int):=by omega
    have Nk:=zh ko;clear ko;have T7:zH (PT=Sort.partialIns ltInt a b (5-(jk+1)) i (Sort.fixUp ltInt b i dF)):=zh (by rw[jq.o,<-Hp.o,<-TE.o,<-Fc.o]);have Ag:=ec;by_cases h2:bi≥2
    . have J4:(2:Int)<=(bi:Int):=by omega
      have HF:zH (Sort.fixUp ltInt b i dF=Sort.shiftUp ltInt b (i+1) dF):=zh (by unfold Sort.fixUp;rw[zP (by rw[<-Nk.o];exact h2)]);clear h2;generalize Sort.fixUp ltInt b i dF=dG at*;go_wp2;go_loopw [10] (λs wr=>∃ (k:Nat) (dl:Array Int),s=.int .i64 k/\i<k/\k<=b/\Sort.shiftUp ltInt b k dl=dG/\iK blk n r w dl wr) (λs _=>b-(RowKit.intOf s).toNat)
      case atStart=>exact⟨i+1,dF,by go_num,by omega,by omega,HF.o.symm,Ag⟩
      case round=>
       obtain⟨k,dl,rfl,Gy,Gx,hE,hS⟩:=hrel;have HE:=zh hE;have HS:=zh hS;clear hE hS;by_cases A3:k<b
       . have Cx:(k:Int)<(b:Int):=by omega
         obtain⟨q,hq⟩:=zE (k-1);have X9:IntKind.i64.wrap ((k:Int)-1)=(q:Int):=by rw[zIn _ (by omega)];omega
         have P6:(k:Int)<(n:Int):=by omega
         have C9:(q:Int)<(n:Int):=by omega
         have ym:=yP b k dl A3;have Hl:=jZ b k dl;rw[<-hq] at ym Hl;have jr:=zh ym;have Hq:=zh Hl;have OD:q<k:=by omega
         have c0:=HS.o.2.1.cell k (by have:=HS.o.1;omega);have c1:=HS.o.2.1.cell q (by have:=HS.o.1;omega);clear hq ym Hl;cases hl:ltInt dl[k]! dl[q]! with
         | false=>
          go_wp2;go_quiet ((go_at_call 94;exact Calls.quiet_of_same (eM _ _ _)));go_wp2;go_roundw
          case rel=>exact⟨i,jk+1,_,rfl,by go_num,by omega,by omega,by omega,by rw[T7.o,<-HE.o,Hq.o (.inr hl)],HS.o.drewN _⟩
          case measure=>(simp[zI]<;>omega)
         | true=>
          go_wp2;go_quiet ((go_at_call 94;exact Calls.quiet_of_same (eM _ _ _)));have YS:=zh (HS.o.drewN nq);generalize wr.drewN nq=wq at YS ⊢;clear c0 c1 HS;have c0:=YS.o.2.1.cell k (by have:=YS.o.1;omega);have c1:=YS.o.2.1.cell q (by have:=YS.o.1;omega);have YM:=YS.o.2.1.free k;have QT:=YS.o.2.1.free q;go_wp2
          go_region
          all_goals go_wp2
          all_goals go_roundw
          case rel=>exact⟨k+1,swp dl k q,by go_num,by omega,by omega,by rw[<-HE.o,jr.o hl],(YS.o.drewN _).swap k q (by omega) (by omega)⟩
          case measure=>(simp[zI]<;>omega)
       have Cx:¬ (k:Int)<(b:Int):=by omega
       go_wp2;go_roundw
       case rel=>exact⟨i,jk+1,_,rfl,by go_num,by omega,by omega,by omega,by rw[T7.o,<-HE.o,jZ b k dl (.inl (by omega))],HS.o⟩
       case measure=>(simp[zI]<;>omega)
    have J4:¬ (2:Int)<=(bi:Int):=by omega
    have HF:zH (Sort.fixUp ltInt b i dF=dF):=zh (by unfold Sort.fixUp;rw[zN (by rw[<-Nk.o];exact h2)]);clear h2;generalize Sort.fixUp ltInt b i dF=dG at*;go_wp2;go_roundw
    case rel=>exact⟨i,jk+1,_,rfl,by go_num,by omega,by omega,by omega,by rw[T7.o,HF.o],Ag⟩
    case measure=>(simp[zI]<;>omega)
end
section
open Go.RowKit Go.Lib
open Go.Sort (swp ltInt)
def pG (w:World) (b:Nat) (s:Int):Prop:=w.heap[b]?=some (.cells #[.int .i64 s] 3 (0,0))
theorem pG.cell {s:Int} (h:pG w b s):w.cell? ⟨b,0,none⟩=some (.int .i64 s):=by rw[aB w b 0 _ _ _ h];rfl
theorem pG.set {s:Int} (h:pG w b s) (t:Int):pG (w.setCell ⟨b,0,none⟩ (.int .i64 t)) b t:=by
 unfold pG at h ⊢;rw[aC w b 0 _ _ _ _ h];rfl
theorem dQ.grown {w':World} {g:Nat} {d:Array Int} {r:List Value} (h:dQ w b d r) (hg:w.grownBy w' (some g)) (qo:b≠g):dQ w' b d r:=
 (hg.block b h.lt (λe=>qo (by cases e;rfl))).trans h
def O2 (a b:Nat) (sb:Nat) (s:Nat) (w:World) (e:Ending) (w':World):Prop:=
 ∃ (x y s':Nat),e=.returned (.tuple #[.int .i64 x,.int .i64 y])/\((x=a/\y=b)\/(x=b/\y=a))/\s'<=s+1/\pG w' sb s'/\w.grownBy w' (some sb)
theorem bH {a b:World} {row:Option Nat} (h:a.grownBy b row) (n:Nat):a.grownBy (b.drewN n) row:=⟨h.os,h.tape,h.output,h.size,h.block⟩
theorem jN (w:World) (b i:Nat) (u:Value):w.grownBy (w.setCell ⟨b,i,none⟩ u) (some b):=
 ⟨rfl,rfl,rfl,by simp[World.setCell],λk _ hr=>aG _ _ _ _ (λe=>hr (by rw[e]))⟩
theorem yE (blk n cap a b sb s:Nat) (r:List Value) (d:Array Int) (w:World) (hR:dQ w blk d r) (hn:d.size=n) (ha:a<n) (hb:b<n) (Qc:n<1000000000) (hs:pG w sb s) (tz:s<1000):
 Calls Tryz.prog 168 #[.slice (some ⟨blk,0,none⟩) n cap,.int .i64 a,.int .i64 b,.pointer (some ⟨sb,0,none⟩)] w (O2 a b sb s w):=by
 have ki:(a:Int)<n:=by omega
 have Xo:(b:Int)<n:=by omega
 have c0:=hR.cell a (by omega);have c1:=hR.cell b (by omega);have HS:=zh hs;have f0:=aM w sb 0 _ _ hs;have hc:=hs.cell;clear hR hn hs;go_enter Tryz.func168,Tryz.ntmps168;go_wp2;go_quiet ((go_at_call 94;exact Calls.quiet_of_same (eM _ _ _)));clear ki Xo c0 c1;go_wp2
 . go_ret2
   exact⟨b,a,s+1,rfl,.inr ⟨rfl,rfl⟩,zR _,pG.set (w:=w.drewN nq) HS.o _,aD (bH (eK w (some sb)) nq) (jN (w.drewN nq) sb 0 _)⟩
 go_ret2
 exact⟨a,b,s,rfl,.inl ⟨rfl,rfl⟩,by omega,HS.o,bH (eK _ _) _⟩
def M3 (a b c:Nat) (sb:Nat) (s:Nat) (w:World) (e:Ending) (w':World):Prop:=
 ∃ (x s':Nat),e=.returned (.int .i64 x)/\(x=a\/x=b\/x=c)/\s'<=s+3/\pG w' sb s'/\w.grownBy w' (some sb)
theorem xZ (blk n cap a b c sb s:Nat) (r:List Value) (d:Array Int) (w:World) (hR:dQ w blk d r) (hn:d.size=n) (ha:a<n) (hb:b<n) (hc:c<n) (Qc:n<1000000000) (hs:pG w sb s) (tz:s<900) (qo:blk≠sb):
 Calls Tryz.prog 148 #[.slice (some ⟨blk,0,none⟩) n cap,.int .i64 a,.int .i64 b,.int .i64 c,.pointer (some ⟨sb,0,none⟩)] w (M3 a b c sb s w):=by
 have HR:=zh hR;have HN:=zh hn;have HS:=zh hs;clear hR hn hs;go_enter Tryz.func148,Tryz.ntmps148;go_wp2_with (fail);refine (yE blk n cap a b sb s r d w HR.o HN.o ha hb Qc HS.o (by omega)).mono ?_;rintro e w1 ⟨x1,y1,s1,rfl,TP,ye,Fs,Qv⟩;have pw:=zh (HR.o.grown Qv qo);have PN:=zh Fs;have Vm:=zh Qv;clear Fs Qv;go_wp2_with (fail);refine (yE blk n cap y1 c sb s1 r d w1 pw.o HN.o (by omega) hc Qc PN.o (by omega)).mono ?_;rintro e w2 ⟨x2,y2,s2,rfl,QP,VQ,Am,qf⟩
 have QV:=zh (pw.o.grown qf qo);have pd:=zh Am;have PM:=zh qf;clear Am qf;go_wp2_with (fail);refine (yE blk n cap x1 x2 sb s2 r d w2 QV.o HN.o (by omega) (by omega) Qc pd.o (by omega)).mono ?_;rintro e w3 ⟨x3,y3,s3,rfl,J3,jn,Ft,Q4⟩;have EP:=zh Ft;have EN:=zh Q4;clear Ft Q4;have HX:=zh (zAi TP (zAi QP J3));clear TP QP J3;go_wp2_with (fail);go_ret;refine⟨y3,s3,rfl,?_,by omega,EP.o,aD Vm.o (aD PM.o EN.o)⟩;have:=HX.o;omega
theorem kW (blk n cap a sb s:Nat) (r:List Value) (d:Array Int) (w:World) (hR:dQ w blk d r) (hn:d.size=n) (Sb:0<a) (ha:a+1<n) (Qc:n<1000000000) (hs:pG w sb s) (tz:s<900) (qo:blk≠sb):
 Calls Tryz.prog 147 #[.slice (some ⟨blk,0,none⟩) n cap,.int .i64 a,.pointer (some ⟨sb,0,none⟩)] w (M3 (a-1) a (a+1) sb s w):=by
 have hM:=xZ blk n cap (a-1) a (a+1) sb s r d w hR hn (by omega) (by omega) ha Qc hs tz qo;obtain⟨p,hp⟩:=zE (a-1);obtain⟨q,hq⟩:=zE (a+1);rw[<-hp,<-hq] at hM ⊢;have ki:(a:Int)<1000000000:=by omega
 have Xe:(a:Int)-1=(p:Int):=by omega
 have QO:(a:Int)+1=(q:Int):=by omega
 clear hR hn hs hp hq;go_enter Tryz.func147,Tryz.ntmps147;go_wp2_with (fail);refine hM.mono ?_;rintro e w1 ⟨x,s1,rfl,hx,ye,hI,hg⟩;have HI:=zh hI;have HG:=zh hg;have HX:=zh hx;clear hI hg hx;go_wp2_with (fail);go_ret;exact⟨x,s1,rfl,HX.o,ye,HI.o,HG.o⟩
def CP (a b:Nat) (w:World) (e:Ending) (w':World):Prop:=
 ∃ (p h:Nat),e=.returned (.tuple #[.int .i64 p,.int .i64 h])/\a<=p/\p<b/\h<=2/\Below w.heap.size w w'
theorem nN {w1 w2:World} (h:Below w.heap.size w w1) (hg:w1.grownBy w2 (some b)) (hb:w.heap.size<=b):Below w.heap.size w w2:=
 h.grown hg h.size (λk e=>by cases e;exact hb)
theorem CP.mk {a:Nat} {w':World} (p h:Nat) (h1:a<=p) (h2:p<b) (h3:h<=2) (h4:Below w.heap.size w w'):CP a b w (.returned (.tuple #[.int .i64 p,.int .i64 h])) w':=⟨p,h,rfl,h1,h2,h3,h4⟩
theorem zc0 (s:Nat):((s:Int)==0)=true\/(((s:Int)==0)=false/\((s:Int)==12)=true)\/(((s:Int)==0)=false/\((s:Int)==12)=false):=by
 cases ((s:Int)==0)<;>cases ((s:Int)==12)<;>simp
theorem zaC (blk n cap a b:Nat) (r:List Value) (d:Array Int) (w:World) (hR:dQ w blk d r) (hn:d.size=n) (Xz:a+8<=b) (hb:b<=n) (Qc:n<1000000000):
 Calls Tryz.prog 118 #[.slice (some ⟨blk,0,none⟩) n cap,.int .i64 a,.int .i64 b] w (CP a b w):=by
 have HN:=zh hn;have Hf:=hR.lt;obtain⟨l,hl⟩:=zE (b-a);obtain⟨q,hq⟩:=zE (l / 4);have uh:IntKind.i64.wrap ((b:Int)-(a:Int))=(l:Int):=by rw[zIn _ (by omega)];omega
 have OX:(b:Int)-(a:Int)=(l:Int):=by omega
 have Xe:(l:Int) / 4=(q:Int):=by omega
 obtain⟨i,hi⟩:=zE (a+q);obtain⟨j,hj⟩:=zE (a+q*2);obtain⟨k,hk⟩:=zE (a+q*3);have ui:(a:Int)+(q:Int)=(i:Int):=by omega
 have Lp:(a:Int)+(q:Int)*2=(j:Int):=by omega
 have Kv:(a:Int)+(q:Int)*3=(k:Int):=by omega
 have C9:(q:Int)<1000000000:=by omega
 have ki:(a:Int)<1000000000:=by omega
 have JT:=(zBr w.heap.size w).alloc (zR _) (.cells #[.int .i64 0] 3);have He:pG (w.alloc (.cells #[.int .i64 0] 3)) w.heap.size 0:=by unfold pG;rw[aN,zP rfl]
 have j8:dQ (w.alloc (.cells #[.int .i64 0] 3)) blk d r:=(JT.block blk Hf).trans hR;have h8:(8:Int)<=(l:Int):=by omega
 have Xh:a<i/\i+1<b/\a<j/\j+1<b/\a<k/\k+1<b:=by omega
 have qo:blk≠w.heap.size:=by omega
 clear hR hn hl hq hi hj hk;have tG:=zh JT;have Vc:=zh He;have Bt:=zh j8;clear JT He j8;go_enter Tryz.func118,Tryz.ntmps118;by_cases Mp:50<=l
 . have Mq:(50:Int)<=(l:Int):=by omega
   go_wp2_with (fail);refine (kW blk n cap i w.heap.size 0 r d _ Bt.o HN.o (by omega) (by omega) Qc Vc.o (by omega) qo).mono ?_;rintro e w1 ⟨x1,s1,rfl,TP,ye,Fs,Qv⟩;have pw:=zh (Bt.o.grown Qv qo);have Kb:=zh (nN tG.o Qv (zR _));have PN:=zh Fs;clear Fs Qv;go_wp2_with (fail);refine (kW blk n cap j w.heap.size s1 r d w1 pw.o HN.o (by omega) (by omega) Qc PN.o (by omega) qo).mono ?_;rintro e w2 ⟨x2,s2,rfl,QP,VQ,Am,qf⟩;have QV:=zh (pw.o.grown qf qo)
   have YI:=zh (nN Kb.o qf (zR _));have pd:=zh Am;clear Am qf;go_wp2_with (fail);refine (kW blk n cap k w.heap.size s2 r d w2 QV.o HN.o (by omega) (by omega) Qc pd.o (by omega) qo).mono ?_;rintro e w3 ⟨x3,s3,rfl,J3,jn,Ft,Q4⟩;have Tz:=zh (QV.o.grown Q4 qo);have tH:=zh (nN YI.o Q4 (zR _));have EP:=zh Ft;clear Ft Q4;go_wp2_with (fail)
   refine (xZ blk n cap x1 x2 x3 w.heap.size s3 r d w3 Tz.o HN.o (by omega) (by omega) (by omega) Qc EP.o (by omega) qo).mono ?_;rintro e w4 ⟨x,s,rfl,hx,hs,hI,hg⟩;have Yn:=zh (nN tH.o hg (zR _));have hc:=hI.cell;have Kw:a<=x/\x<b:=by omega
   clear hI hg TP QP J3 hx hs ye VQ jn
   rcases zc0 s with h|⟨h,h'⟩|⟨h,h'⟩
   . go_wp2_with (fail)
     go_ret2
     exact CP.mk x 1 Kw.1 Kw.2 (by omega) Yn.o
   . go_wp2_with (fail)
     go_ret2
     exact CP.mk x 2 Kw.1 Kw.2 (by omega) Yn.o
   go_wp2_with (fail)
   go_ret2
   exact CP.mk x 0 Kw.1 Kw.2 (by omega) Yn.o
 have Mq:¬ (50:Int)<=(l:Int):=by omega
 go_wp2_with (fail);refine (xZ blk n cap i j k w.heap.size 0 r d _ Bt.o HN.o (by omega) (by omega) (by omega) Qc Vc.o (by omega) qo).mono ?_;rintro e w4 ⟨x,s,rfl,hx,hs,hI,hg⟩;have Yn:=zh (nN tG.o hg (zR _));have hc:=hI.cell;have Kw:a<=x/\x<b:=by omega
 clear hI hg hx hs
 rcases zc0 s with h|⟨h,h'⟩|⟨h,h'⟩
 . go_wp2_with (fail)
   go_ret2
   exact CP.mk x 1 Kw.1 Kw.2 (by omega) Yn.o
 . go_wp2_with (fail)
   go_ret2
   exact CP.mk x 2 Kw.1 Kw.2 (by omega) Yn.o
 go_wp2_with (fail)
 go_ret2
 exact CP.mk x 0 Kw.1 Kw.2 (by omega) Yn.o
