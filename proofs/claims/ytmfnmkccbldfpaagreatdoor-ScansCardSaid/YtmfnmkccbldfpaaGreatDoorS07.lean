/- Part of a proof. No condition. -/
import Derived.Test.YtmfnmkccbldfpaaGreatDoorS02
import Derived.Test.YtmfnmkccbldfpaaGreatDoorS06
import Derived.Test.YtmfnmkccbldfpaaGreatDoorS01
set_option linter.unusedVariables false
set_option linter.unusedSimpArgs false
set_option maxRecDepth 100000
set_option maxHeartbeats 8000000
namespace Go.Proofs.YtmfnmkccbldfpaaGreatDoor
theorem zzDi {p:Prop} (h:p:=by rw[HS.o.1];exact x6):p:=h
theorem zzDV {p:Prop} (h:p:=by
 obtain⟨p1,p2⟩:=HG.o _ q1 q2;exact⟨rfl,_,p1,p2,HS.o.trans yy⟩):p:=h
theorem zzC6 {p:Prop} (h:p:=by
 go_wp2;go_meet
 case rel=>exact⟨false,rfl,λh=>(by cases h),vk.o.drewN _⟩):p:=h
theorem zzC3 {p:Prop} (h:p:=by have:=YE.o.1;omega):p:=h
theorem zzCL {p:Prop} (h:p:=by
 have h:=Tryz.bits_Len (n:Int) w zo zo;rw[Int.toNat_natCast,hk] at h;exact h.mono λ_ _ h=>⟨h.1,h.2.symm⟩):p:=h
theorem zzCK {p q:Prop} (k:q) (h:q->p:=by intro zz;refine bodyPost_ret (v:=.tuple #[]) (by simp[results,results122,go_sem]) rfl ?_;exact zz):p:=h k
theorem zzCB {p:Prop} (h:p:=by
 refine wp_loop_rounds 1 ?_;rw[rounds_succ];go_wp2;go_meet
 case rel=>exact⟨v0,rfl,by rw[Sb.o,FX.o];rfl,dm.o.symm⟩):p:=h
theorem zzBv {p:Prop} (h:p:=by have:=HN.o;omega):p:=h
theorem zzBq {p:Prop} (h:p:=by
 go_wp2_with (go_at_call 127;refine (G7 _ _).mono ?_;rintro e w' ⟨rfl,rfl⟩)
 go_ret2
 exact⟨i,by simp_all,zo,VO,λx h1 h2=>jq x zo h2,rfl⟩):p:=h
theorem zzAm {p:Prop} (h:p:=by
 clear Ey GB hHA;go_wp2
 all_goals first
  | (go_ret;refine⟨congrArg (λb=>Ending.returned (Value.bool b)) (Eq.symm (Le.o ?_)),QV.o⟩;rw[AS.o];simp;omega)
  | skip
 all_goals first
  | (go_round;(focus (refine⟨k+1,by go_num,zo,KA.o ?_⟩;rw[AS.o];grind));(simp[RowKit.intOf]<;>omega))
  | skip):p:=h
variable {w w':ω} {b X g B:Nat}
section
open Go.RowKit Go.Lib Tryz
open Go.Sort (swp ltInt)
def mS (w:ω) (b:Nat) (X:Nat):Prop:=w.h b #[υ X] 296
theorem mS.cell (h:mS w b X):w.v b 0 (υ X):=by rw[bF w b 0 _ _ _ h];rfl
theorem mS.set (h:mS w b X) (Y:Nat):mS (ς w b.a (υ Y)) b Y:=by
 unfold mS at h ⊢;rw[aB w b 0 _ _ _ _ h];rfl
def XO (rb:Nat) (w:ω) (e:Ending) (w':ω):Prop:=∃ Y:Nat,Y<18446744073709551616/\e=ρ (υ Y)/\mS w' rb Y/\w.g w' rb
theorem zg9 (rb X:Nat) (hX:X<18446744073709551616) (w:ω) (h:mS w rb X):Γ 153 #[π rb] w (XO rb w):=by
 obtain⟨A,hA⟩:∃ A:Nat,A=X^^^(X*8192%18446744073709551616):=⟨_,rfl⟩;obtain⟨B,hB⟩:∃ B:Nat,B=A^^^(A / 128):=⟨_,rfl⟩;obtain⟨C,hC⟩:∃ C:Nat,C=B^^^(B*131072%18446744073709551616):=⟨_,rfl⟩;have lA:A<18446744073709551616:=by rw[hA];exact Nat.xor_lt_two_pow (n:=64) zo zo
 have lB:B<18446744073709551616:=by rw[hB];exact Nat.xor_lt_two_pow (n:=64) zo zo
 have lC:C<18446744073709551616:=by rw[hC];exact Nat.xor_lt_two_pow (n:=64) zo zo
 have:bits .xor .u64 (X:Int) (IntKind.u64.wrap ((X:Int)*8192))=(A:Int):=by
  rw[IntKind.wrap_u64,show ((X:Int)*8192%18446744073709551616)=((X*8192%18446744073709551616:Nat):Int) by omega,bits_xor_u64_nat _ _ hX zo,hA]
 have:bits .xor .u64 (A:Int) ((A:Int) / 128)=(B:Int):=by
  rw[show ((A:Int) / 128)=((A / 128:Nat):Int) by omega,bits_xor_u64_nat _ _ lA zo,hB]
 have:bits .xor .u64 (B:Int) (IntKind.u64.wrap ((B:Int)*131072))=(C:Int):=by
  rw[IntKind.wrap_u64,show ((B:Int)*131072%18446744073709551616)=((B*131072%18446744073709551616:Nat):Int) by omega,bits_xor_u64_nat _ _ lB zo,hC]
 have LC:=zh lC;clear hA hB hC lC;have H0:=Θ h (eN w (some rb));go_in;go_upto_region 1 with fail
 have hc:=H0.o.1.cell;have hf:=bN _ rb 0 _ _ H0.o.1;go_cut [] (λwx=>mS wx rb A/\w.g wx rb)
 case first=>
  go_region
  all_goals (go_wp2;go_meet)
  case rel=>exact⟨mS.set (w:=World.drewN _ _) H0.o.1 A,aC (aM H0.o.2 _) (lV _ _ _ _)⟩
 case rest=>
  clear hc hf;go_upto_region 2 with fail
  have hc:=hcut.1.cell;have hf:=bN _ rb 0 _ _ hcut.1;go_cut [] (λwx=>mS wx rb B/\w.g wx rb)
  case first=>
   go_region
   all_goals (go_wp2;go_meet)
   case rel=>exact⟨mS.set (w:=World.drewN _ _) hcut.1 B,aC (aM hcut.2 _) (lV _ _ _ _)⟩
  case rest=>
   clear hc hf;go_upto_region 3 with fail
   have hc:=hcut.1.cell;have hf:=bN _ rb 0 _ _ hcut.1;go_cut [] (λwx=>mS wx rb C/\w.g wx rb)
   case first=>
    go_region
    all_goals (go_wp2;go_meet)
    case rel=>exact⟨mS.set (w:=World.drewN _ _) hcut.1 C,aC (aM hcut.2 _) (lV _ _ _ _)⟩
   case rest=>
    clear hc hf;have hc:=hcut.1.cell;have hf:=bN _ rb 0 _ _ hcut.1;go_wp2;go_ret;exact⟨C,LC.o,rfl,hcut.1,hcut.2⟩
def PowO (n:Nat) (w:ω) (e:Ending) (w':ω):Prop:=∃ M:Nat,1<=M/\M<=2*n/\e=ρ (υ M)/\w=w'
theorem zil (x:Nat) (h0:0<x) (h:x<2^64):2^Lib.bitLen x<=2*x:=by
 induction x using Nat.strongRecOn with
 | _ x ih=>
  rw[Lib.bitLen_half x zo h,Nat.add_comm,Nat.pow_succ];by_cases h2:2<=x
  . grind
  obtain rfl:x=1:=by omega
  decide
theorem zfO (n:Nat) (h0:0<n) (h:n<1000000000):∃ k:Nat,Lib.bitLen n=k/\k<=62/\1<=2^k/\2^k<=2*n:=by
 have hp:=zil n h0 zo;refine⟨Lib.bitLen n,rfl,?_,Nat.one_le_two_pow,hp⟩
 rcases zLg 62 (Lib.bitLen n) with h1|h1
 . have:2^62<=2^Lib.bitLen n:=Nat.pow_le_pow_right zd zo
   omega
 omega
theorem wrap_pow (k:Nat) (hk:k<=62):IntKind.u64.wrap ((2:Int)^k)=((2^k:Nat):Int):=by
 have:(2:Nat)^k<=2^62:=Nat.pow_le_pow_right zd hk
 grind [IntKind.wrap_u64]
theorem zgI (n:Nat) (h0:0<n) (h:n<1000000000) (w:ω):Γ 152 #[ι n] w (PowO n w):=by
 obtain⟨k,hk,Od,h1,h2⟩:=zfO n h0 h;have gd:∀ w,Γ 123 #[υ (n:Int)] w λe w'=>e=ρ (ι (k:Nat))/\w=w':=λw=>by
  exact zzCL
 have hp:=wrap_pow k Od;obtain⟨M,hM⟩:=zE (2^k);rw[<-hM] at hp h1 h2;clear hM;go_in;go_wp2_with (first|(go_at_call 123;refine (gd _).mono ?_;rintro e w' ⟨rfl,rfl⟩));go_ret;exact⟨M,h1,h2,rfl,rfl⟩
theorem zgx {w1 w2:ω} (h:w.g w1 b) (k:w1.g w2 g) (hg:w.t<=g):w.g w2 b:=
 ⟨k.os.trans h.os,k.tape.trans h.tape,k.output.trans h.output,zT h.size k.size,λi hi hr=>(k.block i (zLd hi h.size) (λe=>zg)).trans (h.block i hi hr)⟩
theorem jW.fresh {n:Nat} {r:ζ} {w1 w2:ω} {d:Array Int} (h:jW b n r w d w1) (k:w1.g w2 g) (hg:w.t<=g) (hb:b<w.t):jW b n r w d w2:=
 ⟨h.1,h.2.1.grown k zo,zgx h.2.2 k hg⟩
theorem mS.grown (h:mS w b X) (hg:w.g w' g) (qg:b≠g):mS w' b X:=
 (hg.block b (aA h) (λe=>qg zg)).trans h
theorem zbc (blk n cap a b:Nat) (r:ζ) (d:Array Int) (w:ω) (hR:eP w blk d r) (hn:d.size=n) (KJ:a+8<=b) (hb:b<=n) (Hv:n<1000000000):
 Γ 134 #[σ blk n cap,ι a,ι b] w λe w'=>e=ρ (ϕ #[])/\∃ d',Sort.PermIn a b d d'/\jW blk n r w d' w':=by
 have Hf:=hR.lt;obtain⟨l,hl⟩:=zE (b-a);obtain⟨q,hq⟩:=zE (l / 4);have:IntKind.i64.wrap ((b:Int)-(a:Int))=(l:Int):=by rw[lM];omega
 have:(b:Int)-(a:Int)=(l:Int):=zo
 have:(l:Int) / 4=(q:Int):=zo
 obtain⟨i,hi⟩:∃ i,i+1=a+q*2:=⟨a+q*2-1,zo⟩;have:(a:Int)+(q:Int)*2=(i:Int)+1:=zo
 have BC:(q:Int)<1000000000:=zo
 have Jf:(a:Int)<1000000000:=zo
 have XP:(i:Int)<1000000000:=zo
 have p9:=(zBr w.t w).alloc bR (Ω #[υ l] 296);have hX0:mS (κ w (Ω #[υ l] 296)) w.t l:=by unfold mS;rw[aV,zP rfl]
 have PJ:jW blk n r w d (κ w (Ω #[υ l] 296)):=⟨hn,(p9.block blk Hf).trans hR,aH p9 _⟩;have:(8:Int)<=(l:Int):=zo
 have TQ:a<i/\i+2<b/\0<l/\l<1000000000:=zo
 have HL:=Λ hl hq KJ;clear hl hq hi;clear p9;go_in;go_wp2_with fail;refine (zgI l TQ.2.2.1 TQ.2.2.2 _).mono ?_;rintro e w0 ⟨M,Sn,So,rfl,rfl⟩;obtain⟨M1,hMM⟩:∃ M1,M1+1=M:=⟨M-1,zo⟩;have:IntKind.u64.wrap ((M:Int)-1)=(M1:Int):=by rw[IntKind.wrap_u64];omega
 have:M1<2*l:=zo
 go_wp2;go_loopw [9,10] (λs9 _ wr=>∃ (j X:Nat) (dk:Array Int),s9=ι j/\i<=j/\j<=i+3/\X<18446744073709551616/\mS wr w.t X/\jW blk n r w dk wr/\Sort.PermIn a b d dk) (λs9 _ _=>i+3-(ϑ s9).toNat)
 case atStart=>exact⟨i,l,d,zr,bR,zo,zo,hX0,PJ,Go.Sort.permIn_refl _ _ _⟩
 case round=>
  obtain⟨j,X,dk,rfl,Ds,Pf,hX,hU,hS,hP⟩:=hrel;by_cases hj:j<=i+2;rotate_left
  . have hz:¬ (j:Int)<=(i:Int)+1+1:=zo
    go_wp2;go_end0;exact⟨rfl,dk,hP,hS⟩
  have hz:(j:Int)<=(i:Int)+1+1:=zo
  go_wp2_with fail;refine (zg9 w.t X hX _ hU).mono ?_;rintro e w1 ⟨Y,hY,rfl,Es,QU⟩;have YE:=zh (hS.fresh QU bR Hf);clear QU;obtain⟨o,ho⟩:=zE (Y&&& M1);have:bits .and .u64 (Y:Int) (M1:Int)=(o:Int):=by rw[ho];exact bits_and_u64_nat Y M1 hY zo
  have:o<=M1:=by rw[ho];exact Nat.and_le_right
  have Vd:(o:Int)<2000000000:=zo
  have:IntKind.i64.wrap (o:Int)=(o:Int):=lM;have:IntKind.i64.wrap ((o:Int)-(l:Int))=(o:Int)-(l:Int):=by have:=TQ;exact lM
  have HAN:=Λ Jf XP BC;clear ho;go_upto_if 43 with fail
  clear Vd Jf XP BC;go_cut [10] (λs wx=>∃ o2:Nat,s=ι o2/\o2<l/\wx=w1)
  case first=>
   by_cases Br:l<=o
   . have Kq:decide ((l:Int)<=(o:Int))=true:=zx
     go_wp2;go_meet
     case rel=>exact⟨o-l,by congr 1;omega,zo,rfl⟩
   . have Kq:decide ((l:Int)<=(o:Int))=false:=zx
     go_wp2;go_meet
     case rel=>exact⟨o,rfl,zo,rfl⟩
  case rest=>
   obtain⟨o2,rfl,jr,rfl⟩:=hcut;obtain⟨f,hf⟩:=zE (a+o2);have:IntKind.i64.wrap ((a:Int)+(o2:Int))=(f:Int):=by rw[lM];omega
   have:(f:Int)<(n:Int):=by have:=HL.o;omega
   have:(j:Int)<(n:Int):=by have:=HL.o;omega
   have xg:a<=f/\f<b:=by have:=HL.o;omega
   clear hf;have:=YE.o.2.1.cell j zzC3;have:=YE.o.2.1.cell f zzC3;have:=YE.o.2.1.free j;have:=YE.o.2.1.free f;have XP:=HAN.o.2.1;by_cases heq:j=f
   . subst heq
     go_wp2
     go_region
     all_goals go_wp2
     all_goals go_roundw
     case rel=>
      refine⟨j+1,Y,swp dk j j,by go_num,zo,zo,hY,mS.grown (w:=World.drewN _ _) Es (jN _ _ _ _ _ _) zo,YE.o.drewN _ |>.swap j j zo zo,?_⟩;exact Go.Sort.permIn_trans _ _ _ _ _ hP (Go.Sort.swp_permIn dk a b j j xg.1 xg.2 xg.1 xg.2 zzC3)
     case measure=>exact zY
   have:¬ f=j:=λe=>heq e.symm
   go_wp2
   go_region
   all_goals go_wp2
   all_goals go_roundw
   case rel=>
    refine⟨j+1,Y,swp dk j f,by go_num,zo,zo,hY,mS.grown (w:=World.drewN _ _) Es (jN _ _ _ _ _ _) zo,YE.o.drewN _ |>.swap j f zo zo,?_⟩;exact Go.Sort.permIn_trans _ _ _ _ _ hP (Go.Sort.swp_permIn dk a b j f zo zo xg.1 xg.2 zzC3)
   case measure=>exact zY
end
section
open Go.RowKit Tryz
open Go.Sort (swp ltInt)
def Gd (a b ak bk:Nat) (d dk:Array Int):Prop:=∀ R,Sort.PermIn ak bk dk R->Sort.SortedIn ltInt ak bk R->Sort.PermIn a b d R/\Sort.SortedIn ltInt a b R
def SO (blk n:Nat) (r:ζ) (a b:Nat) (d:Array Int) (w:ω) (e:Ending) (w':ω):Prop:=
 e=ρ (ϕ #[])/\∃ d',Sort.PermIn a b d d'/\Sort.SortedIn ltInt a b d'/\jW blk n r w d' w'
def PdqC (m:Nat):Prop:=∀ (blk n cap a b limit:Nat) (r:ζ) (d:Array Int) (w:ω),b-a<m->eP w blk d r->d.size=n->a<=b->b<=n->n<1000000->limit<=1000->Sort.Below ltInt a b d->
 Γ 122 #[σ blk n cap,ι a,ι b,ι limit] w (SO blk n r a b d w)
theorem swoI:Sort.SWO ltInt:=Sort.swo_ltInt
theorem Gd.perm {a ak bk:Nat} {d dk dl:Array Int} (h:Gd a b ak bk d dk) (hp:Sort.PermIn ak bk dk dl):Gd a b ak bk d dl:=λR hR hS=>h R (Sort.permIn_trans _ _ _ _ _ hp hR) hS
theorem pdq_any (m:Nat) (ih:PdqC m):PdqC (m+1):=by
 intro blk n cap a b limit r d w hm hR hn KJ hb Hv SG mt;have IH:=zh ih;have VB:=zh (jW.refl (w:=w) hR hn);have yh:=zh Hv;have HM:=zh hm;have HBL:=zh mt;have Ri:n<1000000000:=zo
 have PE:=zh Ri;clear hR hn ih Hv hm mt Ri;go_in;go_wp2;go_loopw [1,2,3,8,9] (λs1 s2 s3 s8 s9 wr=>∃ (ak bk lk:Nat) (wb wp:Bool) (dk:Array Int),s1=ι ak/\s2=ι bk/\s3=ι lk/\s8=φ wb/\s9=φ wp/\a<=ak/\ak<=bk/\bk<=b/\lk<=1000/\
  Sort.Below ltInt ak bk dk/\Gd a b ak bk d dk/\jW blk n r w dk wr) (λs1 s2 _ _ _ _=>(ϑ s2-ϑ s1).toNat)
 case atStart=>exact⟨a,b,limit,true,true,d,rfl,rfl,rfl,rfl,rfl,bR,KJ,bR,SG,HBL.o,λR h1 h2=>⟨h1,h2⟩,VB.o⟩
 case round=>
  obtain⟨ak,bk,lk,wb,wp,dk,rfl,rfl,rfl,rfl,rfl,Pd,Ga,hbk,Av,hBk,hGk,hSk⟩:=hrel;have HB:=zh hBk;have HG:=zh hGk;have HS:=zh hSk;obtain⟨l,hl⟩:=zE (bk-ak);have ju:IntKind.i64.wrap ((bk:Int)-(ak:Int))=(l:Int):=by have:=yh.o;rw[lM];omega
  have RA:wrap64 ((bk:Int)-(ak:Int))=(l:Int):=by have:=yh.o;unfold wrap64;omega
  have HL:=zh hl;have Iw:=zh hbk;have x6:bk<=n:=zo
  clear hBk hGk hSk hl;by_cases h12:l<=12
  . have hz:(l:Int)<=12:=zo
    go_wp2_with fail;refine (zej blk n cap ak bk r dk _ HS.o.2.1 HS.o.1 Ga x6 PE.o).mono ?_;rintro e w1 ⟨rfl,yy⟩;go_wp2_with fail;refine zzCK ?_;obtain⟨q1,q2⟩:=Sort.insertionSort_holds swoI dk ak bk Ga zzDi;exact zzDV
  have hz:¬ (l:Int)<=12:=zo
  have:ak+13<=bk:=by have:=HL.o;omega
  by_cases QZ:lk=0
  . have Kf:((lk:Int)==0)=true:=by simp[QZ]
    clear QZ;go_wp2_with fail;refine (zfo blk n cap ak bk r dk _ HS.o.2.1 HS.o.1 zo x6 PE.o).mono ?_;rintro e w1 ⟨rfl,yy⟩;go_wp2;refine zzCK ?_;obtain⟨q1,q2⟩:=Sort.heapSort_holds swoI dk ak bk Ga zzDi;exact zzDV
  have Kf:((lk:Int)==0)=false:=by simp[QZ]
  have:1<=lk:=zo
  go_upto_if 35 with fail
  go_cut [3] (λs3 wx=>∃ (l2:Nat) (d1:Array Int),s3=ι l2/\l2<=1000/\Sort.PermIn ak bk dk d1/\jW blk n r w d1 wx)
  case first=>
   cases wb with
   | true=>
    go_wp2;go_meet
    case rel=>exact⟨lk,dk,rfl,Av,Sort.permIn_refl _ _ _,HS.o⟩
   | false=>
    go_wp2_with fail;refine (zbc blk n cap ak bk r dk _ HS.o.2.1 HS.o.1 zo x6 PE.o).mono ?_;rintro e w1 ⟨rfl,d1,Qd,yy⟩;have Qk:=zh Qd;have YE:=zh yy;clear Qd yy;go_wp2;go_meet
    case rel=>exact⟨lk-1,d1,by congr 1;omega,zo,Qk.o,HS.o.trans YE.o⟩
  case rest=>
   obtain⟨l2,d1,rfl,Q9,Qd,yy⟩:=hcut;have Kv:=zh (HG.o.perm Qd);have XW:=zh (HB.o.perm zzDi Qd);have YE:=zh yy;clear Qd yy HG HB HS;go_wp2_with fail;refine (zca blk n cap ak bk r d1 _ YE.o.2.1 YE.o.1 zo x6 PE.o).mono ?_;rintro e w2 ⟨p,hh,rfl,Qd,yf,CQ,Hm⟩;have QS:zH (jW blk n r w d1 w2):=zh (YE.o.trans ⟨YE.o.1,(Hm.block _ YE.o.2.1.lt).trans YE.o.2.1,aH Hm _⟩);clear Hm YE;go_upto_if 50 with fail
   go_cut [11,12] (λVT s12 wx=>∃ (p2 h2:Nat) (d2:Array Int),VT=ι p2/\s12=ι h2/\ak<=p2/\p2<bk/\h2<=2/\Sort.PermIn ak bk d1 d2/\jW blk n r w d2 wx)
   case first=>
    cases hd:((hh:Int)==2) with
    | false=>
     go_wp2;go_meet
     case rel=>exact⟨p,hh,d1,rfl,rfl,Qd,yf,CQ,Sort.permIn_refl _ _ _,QS.o⟩
    | true=>
     go_wp2_with fail;refine (zgV blk n cap ak bk r d1 _ QS.o.2.1 QS.o.1 zo x6 PE.o).mono ?_;rintro e w3 ⟨rfl,d2,Bh,Xh⟩;have xz:=zh Bh;have Q5:=zh (QS.o.trans Xh);obtain⟨b1,Hk⟩:∃ x,x+1=bk:=⟨bk-1,zo⟩;obtain⟨pa,Y5⟩:∃ x,x+ak=p:=⟨p-ak,zo⟩;obtain⟨p2,hp2'⟩:∃ x,x+pa=b1:=⟨b1-pa,zo⟩;have e1:wrap64 ((bk:Int)-1)=(b1:Int):=by have:=yh.o;unfold wrap64;omega
     have e2:wrap64 ((p:Int)-(ak:Int))=(pa:Int):=by have:=yh.o;unfold wrap64;omega
     have:wrap64 ((b1:Int)-(pa:Int))=(p2:Int):=by have:=yh.o;unfold wrap64;omega
     have Xx:ak<=p2/\p2<bk:=zo
     clear Bh Xh Hk Y5 hp2';go_wp2;go_meet
     case rel=>exact⟨p2,1,d2,by simp_all,rfl,Xx.1,Xx.2,zo,xz.o,Q5.o⟩
   case rest=>
    obtain⟨p2,h2,d2,rfl,rfl,Dz,DA,hh2',Bh,Q7⟩:=hcut;have Ae:=zh (Kv.o.perm Bh);have QV:=zh (XW.o.perm (by rw[QS.o.1];exact x6) Bh);have Q5:=zh Q7;clear Bh Q7 Kv XW QS Qd yf CQ;go_upto_region 15 with fail;obtain⟨wy,RH⟩:∃ x:ω,x=wc:=⟨_,rfl⟩;have dm:=zh RH;clear RH;go_cut [68] (λs wx=>∃ c:Bool,s=φ c/\wx=wy)
    case first=>
     cases wb<;>cases wp<;>cases hd:((h2:Int)==1)
     all_goals (go_wp2;go_meet;exact⟨_,rfl,dm.o.symm⟩)
    case rest=>
     obtain⟨c,rfl,Ir⟩:=hcut;rw[<-dm.o,<-Ir] at Q5;clear Ir dm;go_upto_if 68 with fail;go_cut [] (λwx=>∃ d3:Array Int,Sort.PermIn ak bk d2 d3/\jW blk n r w d3 wx)
     case first=>
      cases c with
      | false=>
       go_wp2;go_meet
       case rel=>exact⟨d2,Sort.permIn_refl _ _ _,Q5.o⟩
      | true=>
       go_wp2_with fail;refine (zaa blk n cap ak bk r d2 _ Q5.o.2.1 Q5.o.1 zo x6 PE.o).mono ?_;rintro e w4 ⟨rfl,Ml⟩;have Yw:=zh (Sort.partialInsertionSort_holds swoI d2 ak bk zo (by rw[Q5.o.1];exact x6) QV.o);have vk:=zh (Q5.o.trans Ml);clear Ml;cases th:(Sort.partialInsertionSort ltInt d2 ak bk).2 with
       | false=>
        go_wp2;go_meet
        case rel=>exact⟨_,Yw.o.1,vk.o⟩
       | true=>
        have Ju:=zh th;go_wp2;refine zzCK ?_;obtain⟨p1,p2⟩:=Ae.o _ Yw.o.1 (Yw.o.2 Ju.o);exact⟨rfl,_,p1,p2,vk.o⟩
     case rest=>
      obtain⟨d3,UD,Ml⟩:=hcut;have Fo:=zh (Ae.o.perm UD);have VU:=zh (QV.o.perm (by rw[Q5.o.1];exact x6) UD);have vk:=zh Ml;clear UD Ml Ae QV Q5;go_upto_region 17 with fail;obtain⟨q,hq⟩:=zE (ak-1);have HQ:=zh hq;go_cut [87] (λs wx=>∃ c:Bool,s=φ c/\(c=true->0<ak/\ltInt d3[ak-1]! d3[p2]! =false)/\jW blk n r w d3 wx)
      case first=>
       by_cases ha0:0<ak
       . have hz:=zp ak
         have Kq:decide ((0:Int)<(ak:Int))=true:=by simpa using hz
         have e1:IntKind.i64.wrap ((ak:Int)-1)=(q:Int):=by have:=yh.o;rw[lM];omega
         have:=zt q n
         have:=zt p2 n
         have:=vk.o.2.1.cell q (by have:=vk.o.1;omega);have:=vk.o.2.1.cell p2 (by have:=vk.o.1;omega);clear hq;cases hl:ltInt d3[q]! d3[p2]! with
         | true=>
          go_quiet ((go_at_call 126;exact Calls.quiet_of_same (fM _ _ _)));exact zzC6
         | false=>
          go_quiet ((go_at_call 126;exact Calls.quiet_of_same (fM _ _ _)));go_wp2;go_meet
          case rel=>exact⟨true,rfl,λ_=>⟨ha0,by rw[<-HQ.o];omega⟩,vk.o.drewN _⟩
       . have Kq:decide ((0:Int)<(ak:Int))=false:=zx
         clear hq;go_quiet (fail);exact zzC6
      case rest=>
       clear hq;obtain⟨c,rfl,hc,dx⟩:=hcut;have HC:=zh hc;have VC:=zh dx;clear hc dx vk;cases c with
       | true=>
        go_wp2_with fail;refine (zaX blk n cap ak bk p2 r d3 _ VC.o.2.1 VC.o.1 Dz DA x6 PE.o).mono ?_;rintro e w6 ⟨rfl,Ao⟩;have hx:Sort.partitionEqual ltInt d3 ak bk p2=((Sort.partitionEqual ltInt d3 ak bk p2).1,(Sort.partitionEqual ltInt d3 ak bk p2).2):=rfl;obtain⟨YR,Jm,Tc,mo,Hg⟩:=Sort.round_eq swoI (Sort.partitionEqual_holds ltInt) (HC.o zs).1 Dz DA (by rw[VC.o.1];exact x6) VU.o (HC.o zs).2 hx;have Qs:=zh mo
        have HG6:zH (Gd a b (Sort.partitionEqual ltInt d3 ak bk p2).1 bk d (Sort.partitionEqual ltInt d3 ak bk p2).2):=zh (λR h1 h2=>(λq=>Fo.o R q.1 q.2) (Hg R h1 h2));have CH:=zh (VC.o.trans Ao);clear hx mo Hg Ao Tc;generalize (Sort.partitionEqual ltInt d3 ak bk p2).1=jw at*;generalize (Sort.partitionEqual ltInt d3 ak bk p2).2=d6 at*;go_wp2_with fail;go_roundw
        case rel=>exact⟨jw,bk,l2,wb,wp,d6,rfl,rfl,rfl,rfl,rfl,zo,Jm,Iw.o,Q9,Qs.o,HG6.o,CH.o⟩
        case measure=>exact zY
       | false=>
        go_wp2_with fail;refine (zeE blk n cap ak bk p2 r d3 _ VC.o.2.1 VC.o.1 Dz DA x6 PE.o).mono ?_;rintro e w6 ⟨rfl,Ao⟩;have hx:Sort.partition ltInt d3 ak bk p2=((Sort.partition ltInt d3 ak bk p2).1,(Sort.partition ltInt d3 ak bk p2).2.1,(Sort.partition ltInt d3 ak bk p2).2.2):=rfl;obtain⟨g1,g2,Tc,W7,hBr,EJ,Nt⟩:=Sort.round_part swoI (Sort.partition_holds ltInt) Dz DA (by rw[VC.o.1];exact x6) VU.o hx;have HBa:=zh W7;have HBr:=zh hBr;have Wg:=zh EJ;have Wz:=zh Nt
        have CH:=zh (VC.o.trans Ao);clear hx W7 hBr EJ Nt Ao Tc;generalize (Sort.partition ltInt d3 ak bk p2).1=jw at*;generalize (Sort.partition ltInt d3 ak bk p2).2.1=apx at*;generalize (Sort.partition ltInt d3 ak bk p2).2.2=d6 at*;obtain⟨ll,GY⟩:∃ x,x+ak=jw:=⟨jw-ak,zo⟩;obtain⟨rl,Qh⟩:∃ x,x+jw=bk:=⟨bk-jw,zo⟩;have hf:jw-ak<m/\bk-(jw+1)<m/\jw<=n/\jw+1<=bk/\a<=jw+1/\jw<=b:=by have:=HM.o;have:=Iw.o;omega
        have e1:wrap64 ((jw:Int)-(ak:Int))=(ll:Int):=by have:=yh.o;unfold wrap64;omega
        have e2:wrap64 ((bk:Int)-(jw:Int))=(rl:Int):=by have:=yh.o;unfold wrap64;omega
        have e5:wrap64 ((jw:Int)+1)=((jw+1:Nat):Int):=by have:=yh.o;unfold wrap64;omega
        clear GY Qh;by_cases Bv:ll<rl
        . have hz:=zt ll rl
          go_wp2_with fail;refine (IH.o blk n cap ak jw l2 r d6 _ hf.1 CH.o.2.1 CH.o.1 g1 hf.2.2.1 yh.o Q9 HBa.o).mono ?_;rintro e w7 ⟨rfl,L,Md,Ux,Mm⟩;obtain⟨mr,Hg⟩:=Wg.o L Md Ux;have uc:=zh mr;have N7:zH (Gd a b (jw+1) bk d L):=zh (λR h1 h2=>(λq=>Fo.o R q.1 q.2) (Hg R h1 h2));have LV:=zh (CH.o.trans Mm);clear Md Ux Mm mr Hg e1 e2;go_wp2_with fail;go_roundw
          case rel=>exact⟨jw+1,bk,l2,_,apx,L,zg,rfl,rfl,rfl,rfl,hf.2.2.2.2.1,hf.2.2.2.1,Iw.o,Q9,uc.o,N7.o,LV.o⟩
          case measure=>(simp only[e5];clear e5 ju RA N7 LV uc Wg Wz;simp[RowKit.intOf]<;>omega)
        have hz:=zn ll rl
        go_wp2_with fail;rw[e5];refine (IH.o blk n cap (jw+1) bk l2 r d6 _ hf.2.1 CH.o.2.1 CH.o.1 hf.2.2.2.1 x6 yh.o Q9 HBr.o).mono ?_;rintro e w7 ⟨rfl,L,Md,Ux,Mm⟩;obtain⟨mr,Hg⟩:=Wz.o L Md Ux;have uc:=zh mr;have N7:zH (Gd a b ak jw d L):=zh (λR h1 h2=>(λq=>Fo.o R q.1 q.2) (Hg R h1 h2));have LV:=zh (CH.o.trans Mm);clear Md Ux Mm mr Hg e1 e2;go_wp2;go_roundw
        case rel=>exact⟨ak,jw,l2,_,apx,L,rfl,rfl,rfl,rfl,rfl,Pd,g1,hf.2.2.2.2.2,Q9,uc.o,N7.o,LV.o⟩
        case measure=>(clear e5 ju RA N7 LV uc Wg Wz;simp[RowKit.intOf]<;>omega)
end
section
open Go.RowKit Tryz
open Go.Sort (swp ltInt)
theorem pdq_all:∀ m,PdqC m
 | 0=>λ_ _ _ _ _ _ _ _ _ hm=>absurd hm (Nat.not_lt_zero _)
 | m+1=>pdq_any m (pdq_all m)
theorem sort_any (blk n cap:Nat) (r:ζ) (d:Array Int) (w:ω) (hR:eP w blk d r) (hn:d.size=n) (h0:0<n) (Hv:n<1000000):
 Γ 106 #[σ blk n cap] w (SO blk n r 0 n d w):=by
 obtain⟨k,hk,Od,_,_⟩:=zfO n h0 zo;have gd:∀ w,Γ 123 #[υ (n:Int)] w λe w'=>e=ρ (ι (k:Nat))/\w=w':=λw=>by
  exact zzCL
 have hP:=pdq_all (n+1) blk n cap 0 n k r d w zo hR hn rC bR Hv zo (.inl rfl);clear hR hn;go_in;go_wp2_with (first|(go_at_call 123;refine (gd _).mono ?_;rintro e w' ⟨rfl,rfl⟩)|fail);refine hP.mono ?_;rintro e w1 ⟨rfl,h⟩;go_wp2;go_end0;exact⟨rfl,h⟩
def BsO (n:Nat) (d:Array Int) (c:Int) (w:ω) (e:Ending) (w':ω):Prop:=
 ∃ k:Nat,e=ρ (ϕ #[ι k,φ (decide (k<n)&&decide (d[k]! =c))])/\k<=n/\(∀ i,i<k->d[i]!<c)/\(∀ i,k<=i->i<n->c<=d[i]!)/\w=w'
theorem bs_any (blk n cap:Nat) (r:ζ) (d:Array Int) (c:Int) (w:ω) (hR:eP w blk d r) (hn:d.size=n) (Hv:n<1000000) (hs:∀ i j,i<j->j<n->d[i]!<=d[j]!):
 Γ 113 #[σ blk n cap,ξ c] w (BsO n d c w):=by
 have HN:=zh hn;have G7:∀ (x:Int) (w:ω),Γ 127 #[ξ x] w λe w'=>e=ρ (φ false)/\w=w':=by
  intro x w;go_in;exact zzCA
 clear hn;go_in;go_wp2
 go_loop [7,8] (λs7 s8=>∃ i j:Nat,s7=ι i/\s8=ι j/\i<=j/\j<=n/\(∀ x,x<i->d[x]!<c)/\(∀ x,j<=x->x<n->c<=d[x]!)) (λs7 s8=>(ϑ s8-ϑ s7).toNat)
 case atStart=>exact⟨0,n,rfl,rfl,zo,zo,λx h=>absurd h (Nat.not_lt_zero _),λx h1 h2=>absurd h2 zo⟩
 case round=>
  obtain⟨i,j,rfl,rfl,KY,I2,VO,jq⟩:=hrel;by_cases Hf:i<j
  . have hz:=zt i j
    obtain⟨h,hh⟩:=zE ((i+j) / 2);have:((i:Int)+(j:Int)) / 2=(h:Int):=zo
    have:=zt h n
    have:i<=h/\h<j:=zo
    have c0:=hR.cell h zzBv;clear hh;cases hl:ltInt d[h]! c with
    | true=>
     have I4:d[h]!<c:=by simpa[ltInt] using hl
     go_wp2_with (go_at_call 126;refine (zes _ _ _).mono ?_;rintro e w' ⟨rfl,rfl⟩)
     go_round
     case rel=>
      refine⟨h+1,j,by go_num,rfl,zo,I2,λx hx=> ?_,jq⟩;by_cases hxh:x=h
      . subst hxh;exact I4
      have:=hs x h zo zo
      have:=I4;omega
     grind [RowKit.intOf]
    | false=>
     have I4:c<=d[h]!:=by simpa[ltInt] using hl
     go_wp2_with (go_at_call 126;refine (zes _ _ _).mono ?_;rintro e w' ⟨rfl,rfl⟩)
     go_round
     case rel=>
      refine⟨i,h,rfl,rfl,zo,zo,VO,λx h1 h2=> ?_⟩;by_cases hxh:x=h
      . subst hxh;exact I4
      have:=hs h x zo h2
      have:=I4;omega
     grind [RowKit.intOf]
  have hz:=zn i j
  by_cases XP:i<n
  . have hzn:=zt i n
    have c0:=hR.cell i zzBv;cases he:(d[i]! ==c) with
    | true=>
     exact zzBq
    | false=>
     exact zzBq
  have hzn:=zn i n
  go_wp2_with (go_at_call 127;refine (G7 _ _).mono ?_;rintro e w' ⟨rfl,rfl⟩)
  go_ret2
  exact⟨i,by simp[XP],zo,VO,λx h1 h2=>jq x zo h2,rfl⟩
end
section
open Go.RowKit Tryz
def Ty (w:ω) (b:Nat) (t:TypeId):Prop:=∃ cs,w.h b cs t
structure gM (B:Nat) (w:ω) (bt:Nat) (T:dX) (bc cc br cr bg cg:Nat):Prop where
 lt:bt<B
 c0:w.v bt 0 (σ bc (I T.cU) cc)
 c1:w.v bt 1 (σ br (I T.rU) cr)
 c2:w.v bt 2 (σ bg (I T.gO) cg)
 c3:w.i bt 3 T.bound
 cU:∃ rc,eP w bc T.cU.toArray rc
 ltc:bc<B
 rU:∀ (i:Nat) (x:Int),T.rU[i]?=some x->w.i br i x
 ltr:br<B
 gO:∀ (i:Nat) (row:List Int),T.gO[i]?=some row->∃ b c,w.v bg i (σ b (I row) c)/\b<B/\∀ (j:Nat) (x:Int),row[j]?=some x->w.i b j x
 ltg:bg<B
 cap0:I T.cU<=cc
 size:I T.cU<1000000/\I T.gO<1000000
 ty:Ty w bt 183/\Ty w br 3/\Ty w bg 24/\∀ i b n c,i<I T.gO->w.v bg i (σ b n c)->Ty w b 3
theorem ty_kept {bt:Nat} {T:dX} {bc cc br cr bg cg:Nat} (h:gM B w bt T bc cc br cr bg cg) (hk:∀ b,b<B->w'.e w b):Ty w' bt 183/\Ty w' br 3/\Ty w' bg 24/\∀ i b n c,i<I T.gO->w'.v bg i (σ b n c)->Ty w' b 3:=by
 have k:∀ b t,b<B->Ty w b t->Ty w' b t:=λb t hb ⟨cs,e⟩=>⟨cs,(hk b hb).trans e⟩;refine⟨k _ _ h.lt h.ty.1,k _ _ h.ltr h.ty.2.1,k _ _ h.ltg h.ty.2.2.1,λi b n c hi e=> ?_⟩;have e':w.v bg i (σ b n c):=by
  rw[<-e];unfold World.cell?;rw[hk bg h.ltg]
 obtain⟨b2,c2,h1,h2,_⟩:=h.gO i _ (zLe hi);rw[h1] at e';cases e';exact k _ _ h2 (h.ty.2.2.2 i _ _ _ hi h1)
theorem gM.below {bt:Nat} {T:dX} {bc cc br cr bg cg:Nat} (h:gM B w bt T bc cc br cr bg cg) (hb:Below B w w'):gM B w' bt T bc cc br cr bg cg:=by
 have hc:∀ (b o:Nat),b<B->w'.cell? (b.p o)=w.cell? (b.p o):=λb o Hf=>hb.cell (p:=(b.p o)) Hf;refine⟨h.lt,by rw[hc _ _ h.lt];exact h.c0,by rw[hc _ _ h.lt];exact h.c1,by rw[hc _ _ h.lt];exact h.c2,by rw[hc _ _ h.lt];exact h.c3,?_,h.ltc,λi x hx=>by rw[hc _ _ h.ltr];exact h.rU i x hx,h.ltr,λi row hr=> ?_,h.ltg,h.cap0,h.size,ty_kept h λb Hf=>hb.block b Hf⟩
 . obtain⟨rc,hr⟩:=h.cU
   exact⟨rc,(hb.block bc h.ltc).trans hr⟩
 obtain⟨b,c,h1,h2,h3⟩:=h.gO i row hr
 exact⟨b,c,by rw[hc _ _ h.ltg];exact h1,h2,λj x hx=>zg⟩
theorem zcb (c:Int):∀ (l:List Int),l.Pairwise (· < ·)->∀ i,i<I l->(i<l.countP (λx=>decide (x<=c))↔χ l i 0<=c)
 | [],_,i,hi=>by grind
 | y::l,hp,i,hi=>by
  obtain⟨h1,h2⟩:=List.pairwise_cons.1 hp;have:¬ y<=c->l.countP (λx=>decide (x<=c))=0:=by
   intro hy;rw[List.countP_eq_zero];intro x hx;have:=h1 x hx;simp;omega
  cases i with
  | zero=>
   grind
  | succ i=>
   simp only[List.getD_cons_succ,List.countP_cons];have:=zcb c l h2 i zg
   grind
theorem zhg (l:List Int) (i:Nat) (h:i<I l):l.toArray[i]! =χ l i 0:=by
 simp
theorem rise_le {l:List Int} (h:l.Pairwise (· < ·)):∀ i j,i<j->j<l.toArray.size->l.toArray[i]!<=l.toArray[j]!:=by
 grind [List.pairwise_iff_getElem]
theorem cutIdx_bs {l:List Int} {c:Int} {k:Nat} (hr:l.Pairwise (· < ·)) (hh:l.head?=some 0) (hc:0<=c) (hk:k<=I l) (h1:∀ i,i<k->l.toArray[i]!<c) (h2:∀ i,k<=i->i<I l->c<=l.toArray[i]!):
 (k<I l/\l.toArray[k]! =c->nL l c=k)/\(¬ (k<I l/\l.toArray[k]! =c)->nL l c+1=k):=by
 have:0<I l:=by cases l<;>simp_all
 have:χ l 0 0=0:=by cases l<;>simp_all
 have:=List.countP_le_length (l:=l) (p:=λx=>decide (x<=c));have:=zcb c l hr
 grind [nL,List.pairwise_iff_getElem]
theorem zhL (B bt bc cc br cr bg cg set:Nat) (T:dX) (R:Nat) (c:Int) (w:ω) (h:gM B w bt T bc cc br cr bg cg) (hT:yV T R) (Ht:set<I T.gO) (hc:0<=c):
 Γ 85 #[π bt,ι set,ξ c] w λe w'=>e=ρ (ι (fQ T set c))/\w=w':=by
 obtain⟨rc,Hb⟩:=h.cU;have Hv:=h.size;have tW:=bs_any bc (I T.cU) cc rc T.cU.toArray c w Hb zs Hv.1 (λi j KY hj=>rise_le hT.rise i j KY zo);have hf:=xK hT.rise hT.head hc;obtain⟨row,Yx⟩:=zG T.gO set Ht;have Qh:I row=I T.cU:=hT.rows row (zM Yx);obtain⟨b,cb,QU,qk,ye⟩:=h.gO set row Yx;have Xw:fQ T set c=χ row (nL T.cU c) (-1):=by unfold fQ;rw[zLf (l:=T.gO),Yx];rfl
 obtain⟨ix,FD⟩:=zE (nL T.cU c);have:w.i b ix (fQ T set c):=by
  rw[Xw,<-FD];refine ye ix _ ?_;rw[zLf,zLe zo];rfl
 have c0:=h.c0;have c2:=h.c2;have:=zt set (I T.gO)
 have:=zt ix (I row)
 have wE:zH (∀ k:Nat,k<=I T.cU->(∀ i,i<k->T.cU.toArray[i]!<c)->(∀ i,k<=i->i<I T.cU->c<=T.cU.toArray[i]!)->(k<I T.cU/\T.cU.toArray[k]! =c->ix=k)/\(¬ (k<I T.cU/\T.cU.toArray[k]! =c)->ix+1=k)):=
  zh λk h1 h2 h3=>by rw[FD];exact cutIdx_bs hT.rise hT.head hc h1 h2 h3
 generalize fQ T set c=NX at*;clear h hT Hb hf Yx Qh Xw FD ye;go_in;go_wp2_with fail;refine tW.mono ?_;rintro e w' ⟨k,rfl,hk,h1,h2,rfl⟩;obtain⟨q1,q2⟩:=wE.o k hk h1 h2;by_cases If:k<I T.cU/\T.cU.toArray[k]! =c
 . have hb:(decide (k<I T.cU)&&decide (T.cU.toArray[k]! =c))=true:=by rw[Bool.and_eq_true];exact⟨decide_eq_true If.1,decide_eq_true If.2⟩
   have QF:=q1 If;rw[hb];subst QF;go_wp2;go_ret;simp
 have hb:(decide (k<I T.cU)&&decide (T.cU.toArray[k]! =c))=false:=by
  rw[Bool.eq_false_iff];intro h;simp at h;exact If zg
 have QF:=q2 If;rw[hb];have:wrap64 ((k:Int)-1)=(ix:Int):=by unfold wrap64;omega
 have:IntKind.i64.wrap ((k:Int)-1)=(ix:Int):=by rw[lM];omega
 go_wp2;go_ret;simp
theorem zbQ {a b:ω} (h:Below B a b) (n:Nat):Below B a (b.drewN n):=⟨h.os,h.tape,h.output,h.size,h.block⟩
structure By3 (w:ω) (bb off n b0 b1 b2:Nat):Prop where
 c0:w.v bb off (.int .u8 b0)
 c1:1<n->w.v bb (off+1) (.int .u8 b1)
 c2:2<n->w.v bb (off+2) (.int .u8 b2)
 l0:b0<256
 l1:b1<256
 l2:b2<256
 lo:1<=n
 hi:n<=3
theorem zik (B bt bc cc br cr bg cg set bb off n cap b0 b1 b2:Nat) (T:dX) (R:Nat) (w:ω) (h:gM B w bt T bc cc br cr bg cg) (hT:yV T R) (Ht:set<I T.gO) (hb:By3 w bb off n b0 b1 b2) (Xi:n<=cap) (hnw:n<eX b0) (dv:B<=w.t):
 Γ 86 #[π bt,ι set,τ (some (bb.p off)) n cap] w λe w'=>e=ρ (φ (mH T set n b0 b1 b2))/\w.u w':=by
 have H:=zh h;have HT:=zh hT;have HB:=zh hb;have c0:=hb.c0;have QR:(1:Int)<=(n:Int):=by have:=hb.lo;omega
 have Yn:(0:Int)<(n:Int):=by have:=hb.lo;omega
 have Ay:=zu n cap
 have:=hb.l0;obtain⟨RB,Zp⟩:=zE (mH T set n b0 b1 b2);have Ug:=zh Zp;rw[<-Zp];have Wo:=zh hnw;clear h hT hb Zp hnw;go_in;have HW:zH (eX b0=if 240<=b0 then 4 else if 224<=b0 then 3 else 2):=zh rfl;go_upto_if 19 with fail
 go_cut [7] (λs wx=>∃ W:Nat,s=ι W/\W=(if 224<=b0 then 3 else 2)/\wx=w)
 case first=>
  by_cases h:224<=b0
  . have Kq:decide ((224:Int)<=(b0:Int))=true:=zx
    go_wp2;go_meet
    grind
  . have Kq:decide ((224:Int)<=(b0:Int))=false:=zx
    go_wp2;go_meet
    grind
 case rest=>
  obtain⟨W1,rfl,Jw,rfl⟩:=hcut;have di:=zh Jw;have Zy:W1<=3:=by rw[Jw];split<;>omega
  clear Jw;go_upto_if 25 with fail
  go_cut [7] (λs wx=>∃ W:Nat,s=ι W/\W=eX b0/\wx=wc)
  case first=>
   by_cases h:240<=b0
   . have Kq:decide ((240:Int)<=(b0:Int))=true:=zx
     have h3:W1=3:=by rw[di.o,zP zo]
     subst h3;go_wp2;go_meet
     case rel=>exact⟨4,rfl,by rw[HW.o,zP h],rfl⟩
   . have Kq:decide ((240:Int)<=(b0:Int))=false:=zx
     go_wp2;go_meet
     case rel=>exact⟨W1,rfl,by rw[HW.o,zN h,di.o],rfl⟩
  case rest=>
   obtain⟨W,rfl,ZA,rfl⟩:=hcut;have FX:=zh ZA;have PM:W=2\/W=3\/W=4:=by rw[ZA];unfold eX;split<;>(try split)<;>omega
   have Y0:=zh PM;clear ZA Zy PM;go_upto_region 6 with fail
   go_cut [8] (λs wx=>∃ v0:Nat,s=ξ v0/\v0=b0%2^(7-W)/\wc.u wx)
   case first=>
    rcases Y0.o with rfl|rfl|rfl
    . have hm:bits .and .i32 (b0:Int) 31=(b0:Int)%32:=bits_mask .i32 31 zd wraps_i32 5 zd _ zo zo
      go_quiet (fail);go_wp2;go_meet
      case rel=>exact⟨b0%32,by congr 1,rfl,zbQ iM _⟩
    . have hm:bits .and .i32 (b0:Int) 15=(b0:Int)%16:=bits_mask .i32 31 zd wraps_i32 4 zd _ zo zo
      go_quiet (fail);go_wp2;go_meet
      case rel=>exact⟨b0%16,by congr 1,rfl,zbQ iM _⟩
    . have hm:bits .and .i32 (b0:Int) 7=(b0:Int)%8:=bits_mask .i32 31 zd wraps_i32 3 zd _ zo zo
      go_quiet (fail);go_wp2;go_meet
      case rel=>exact⟨b0%8,by congr 1,rfl,zbQ iM _⟩
   case rest=>
    obtain⟨v0,rfl,hv0,p9⟩:=hcut;have jy:=zh p9;have Sb:=zh hv0;have:v0<32:=by
     rw[hv0]
     rcases Y0.o with rfl|rfl|rfl<;>simp<;>omega
    clear hv0 p9 c0
    go_upto_block 0 with fail
    have NZ:zH (By3 wc bb off n b0 b1 b2):=zh (by
     have Hf:=World.block_lt_of_cell? _ _ HB.o.c0;exact⟨(jy.o.cell (p:=(bb.p off)) Hf).trans HB.o.c0,λh=>(jy.o.cell (p:=(bb.p (off+1))) Hf).trans (HB.o.c1 h),λh=>(jy.o.cell (p:=(bb.p (off+2))) Hf).trans (HB.o.c2 h),HB.o.l0,HB.o.l1,HB.o.l2,HB.o.lo,HB.o.hi⟩)
    have:b1<256:=HB.o.l1;have:b2<256:=HB.o.l2;obtain⟨wy,RH⟩:∃ x:ω,x=wc:=⟨_,rfl⟩;have dm:=zh RH;clear RH;go_cut [8,10] from 37 to 49 (λs _ wx=>∃ v:Nat,s=ξ v/\v=iP n b0 b1 b2/\wx=wy)
    case first=>
     have ke:n=1\/n=2\/n=3:=by have:=HB.o.lo;have:=HB.o.hi;omega
     have m1:bits .and .i32 (b1:Int) 63=(b1:Int)%64:=bits_mask .i32 31 zd wraps_i32 6 zd _ zo zo;have m2:bits .and .i32 (b2:Int) 63=(b2:Int)%64:=bits_mask .i32 31 zd wraps_i32 6 zd _ zo zo;have o1:bits .or .i32 ((v0:Int)*64) ((b1:Int)%64)=(v0:Int)*64+(b1:Int)%64:=i32_or6 _ _ zo zo zo zo zo
     rcases ke with rfl|rfl|rfl
     . clear QR Yn Ay m1 m2 o1
       by_cases Ar:cap=1
       . subst Ar
         go_wp2;exact zzCB
       go_wp2
       exact zzCB
     . have Ar:¬ cap=1:=zo
       have c1:=NZ.o.c1 zo;clear QR Yn Ay m2;go_wp2;refine wp_loop_rounds 2 ?_;rw[rounds_succ];go_wp2;rw[rounds_succ];go_wp2;go_meet
       case rel=>exact⟨v0*64+b1%64,by congr 1,by rw[Sb.o,FX.o];rfl,dm.o.symm⟩
     . have Ar:¬ cap=1:=zo
       have c1:=NZ.o.c1 zo;have c2:=NZ.o.c2 zo;have:bits .or .i32 (((v0:Int)*64+(b1:Int)%64)*64) ((b2:Int)%64)=((v0:Int)*64+(b1:Int)%64)*64+(b2:Int)%64:=i32_or6 _ _ zo zo zo zo zo;clear QR Yn Ay;go_wp2;refine wp_loop_rounds 3 ?_;rw[rounds_succ];go_wp2;rw[rounds_succ];go_wp2;rw[rounds_succ];go_wp2;go_meet
       case rel=>exact⟨(v0*64+b1%64)*64+b2%64,by congr 1,by rw[Sb.o,FX.o];rfl,dm.o.symm⟩
    case rest=>
     obtain⟨v,rfl,hv,hwx⟩:=hcut;rw[<-dm.o] at jy NZ;rw[<-hwx] at jy NZ;have HV:=zh hv;have hWl:W=2\/W=3\/W=4:=Y0.o;have:n<W:=by rw[FX.o];exact Wo.o
     have NK:v<2^(1+6*n):=by
      rw[hv];have e:eX b0=W:=FX.o.symm;have ke:n=1\/n=2\/n=3:=by have:=HB.o.lo;have:=HB.o.hi;omega
      unfold iP;rw[e]
      rcases ke with rfl|rfl|rfl<;>rcases hWl with rfl|rfl|rfl<;>simp<;>omega
     clear hv hwx;have ke:n=1\/n=2\/n=3:=by have:=HB.o.lo;have:=HB.o.hi;omega
     have Kl:=zh ke;have hWn:(6:Int)*((W:Int)-(n:Int))=((6*(W-n):Nat):Int):=zo
     have:=zh hWn;clear ke hWn;go_upto_region 12 with fail
     go_cut [11] (λs wx=>∃ m:Nat,s=ι m/\m=6*(W-n)/\wx=wc)
     case first=>
      rcases Y0.o with rfl|rfl|rfl<;>rcases Kl.o with rfl|rfl|rfl
      all_goals first
       | (exfalso;omega)
       | (go_wp2;go_meet;simp)
     case rest=>
      obtain⟨m,rfl,hm,rfl⟩:=hcut;have HMM:=zh hm;clear hm;go_upto_region 13 with fail;go_cut [8,12] (λs8 s12 wx=>∃ lo hi:Nat,s8=ξ lo/\s12=ξ ((hi:Int)-1)/\lo=v*64^(W-n)/\hi=(v+1)*64^(W-n)/\lo<1000000000/\hi<1000000000/\0<hi/\wc.u wx)
      case first=>
       rcases Y0.o with rfl|rfl|rfl<;>rcases Kl.o with rfl|rfl|rfl
       all_goals first
        | (exfalso;omega)
        | skip
       all_goals
        have I7:=HMM.o;simp at I7;subst I7;simp at NK;go_quiet (fail);go_wp2;go_meet;refine⟨_,_,?_,?_,rfl,rfl,?_,?_,?_,zbQ iM _⟩
       all_goals first|rfl|omega
      case rest=>
       obtain⟨lo,hi,rfl,rfl,VO,jq,hlo1,hhi1,Ed,hB2⟩:=hcut;have BW:=Θ VO jq;have QV:=zh (jy.o.trans (hB2.mono jy.o.size));have A2:=zh (H.o.below (QV.o.mono dv));clear VO jq hB2;have Yj:∀ w,(Instr.index 259 (.agg #[ξ 0,ξ 0,ξ 128,ξ 2048,ξ 65536]) (ι 2)).run prog w=.ok (ξ 128) w:=λ_=>by rfl
       have Bt:∀ w,(Instr.index 259 (.agg #[ξ 0,ξ 0,ξ 128,ξ 2048,ξ 65536]) (ι 3)).run prog w=.ok (ξ 2048) w:=λ_=>by rfl
       have Fh:∀ w,(Instr.index 259 (.agg #[ξ 0,ξ 0,ξ 128,ξ 2048,ξ 65536]) (ι 4)).run prog w=.ok (ξ 65536) w:=λ_=>by rfl
       go_upto_region 14 with fail
       go_cut [8] (λs wx=>∃ l2:Int,s=ξ l2/\l2=max (lo:Int) (fH W)/\wx=wc)
       case first=>
        rcases Y0.o with rfl|rfl|rfl
        all_goals
         go_wp2;go_meet;refine⟨_,rfl,?_,rfl⟩;rfl
       case rest=>
        obtain⟨l2,rfl,Q9,rfl⟩:=hcut;have jz:=zh Q9;clear Q9 Yj Bt Fh;obtain⟨row,Yx⟩:=zG T.gO set Ht;have Qh:I row=I T.cU:=HT.o.rows row (zM Yx);have Ko:χ T.gO set []=row:=by rw[zLf,Yx];rfl
        obtain⟨b,cb,QU,qk,ye⟩:=A2.o.gO set row Yx;obtain⟨rc,Hb⟩:=A2.o.cU;have xn:=zh Hb;have Fo:=zh ye;have TA:=zh Qh;have wQ:=zh Ko;have:=A2.o.c0;have:=A2.o.c2;have:=zt set (I T.gO)
        have:I row<1000000:=by have:=A2.o.size.1;omega
        clear Yx Qh Ko Hb ye QR Yn Ay;have LQ:zH (RB=hitT T set l2 ((hi:Int)-1)):=zh (by
         rw[Ug.o];unfold mH;have e:eX b0=W:=FX.o.symm;rw[<-HV.o,e,<-BW.o.1,<-BW.o.2,<-jz.o])
        go_wp2
        go_loop [13,14,15,77] (λ_ _ _ s77=>∃ k:Nat,s77=ι k/\k<=I row/\∀ i,i<k->zdc T set l2 ((hi:Int)-1) i=false) (λ_ _ _ s77=>I row-(ϑ s77).toNat)
        case atStart=>grind
        case round=>
         obtain⟨k,rfl,hk,xw⟩:=hrel;have j0:=zh xw;clear xw;by_cases Hf:k<I row
         . have hz:=zt k (I row)
           have Of:k<I T.cU:=by have:=TA.o;omega
           have:=zt k (I T.cU)
           obtain⟨x,hx⟩:=zG row k Hf;have:=Fo.o k x hx;have cc0:=xn.o.cell k zo;rw[zhg T.cU k Of] at cc0;have oy:zdc T set l2 ((hi:Int)-1) k=(decide (0<=x)&&decide (max l2 (χ T.cU k 0)<=min ((hi:Int)-1) (if k+1<I T.cU then χ T.cU (k+1) 0-1 else 1114111))):=by
            unfold zdc;rw[wQ.o,zLf (l:=row),hx];rfl
           have AS:=zh oy;have Mw:zdc T set l2 ((hi:Int)-1) k=true->RB=true:=λh=>by
            rw[LQ.o];unfold hitT;rw[List.any_eq_true,wQ.o]
            grind
           have Le:=zh Mw;clear oy Mw hx;have KA:zH (zdc T set l2 ((hi:Int)-1) k=false->∀ i,i<k+1->zdc T set l2 ((hi:Int)-1) i=false):=zh λh i hi=>by
            by_cases e:i=k
            . grind
            exact j0.o i zo
           have: -1<=χ T.cU (k+1) 0/\χ T.cU (k+1) 0<=1114111:=by
            rcases zLg (k+1) (I T.cU) with h|h
            . have hm:χ T.cU (k+1) 0∈T.cU:=by rw[zLf,zLe h];simp
              refine⟨?_,HT.o.top _ hm⟩;have:χ T.cU 0 0=0:=by have:=HT.o.head;cases hc:T.cU<;>simp_all
              have:=List.pairwise_iff_getElem.1 HT.o.rise 0 (k+1) zo h zo
              grind
            grind
           generalize Ey:χ T.cU k 0=ck at*;generalize GB:χ T.cU (k+1) 0=ck1 at*;generalize hHA:zdc T set l2 ((hi:Int)-1) k=HA at*;by_cases Yr:k+1<I T.cU
           . have Ro:(k:Int)+1<(I T.cU:Int):=zo
             have cc1:=xn.o.cell (k+1) zo;rw[zhg T.cU (k+1) Yr,GB] at cc1;rw[zP Yr] at AS;exact zzAm
           have Ro:¬ (k:Int)+1<(I T.cU:Int):=zo
           rw[zN Yr] at AS;exact zzAm
         have hz:=zn k (I row)
         go_wp2;go_ret;have hf:RB=false:=by
          rw[LQ.o];unfold hitT;rw[List.any_eq_false,wQ.o];intro i hi;rw[j0.o i (by have:=List.mem_range.1 hi;omega)];simp
         exact⟨congrArg (λb=>Ending.returned (Value.bool b)) hf.symm,QV.o⟩
