/- Part of a proof. No condition. -/
import Derived.Test.YtghpmhllpaheiaaGreatDoorF02
import Derived.Test.YtghpmhllpaheiaaGreatDoorF06
import Derived.Test.YtghpmhllpaheiaaGreatDoorF01
set_option linter.unusedVariables false
set_option linter.unusedSimpArgs false
set_option maxRecDepth 100000
set_option maxHeartbeats 8000000
namespace Go.Proofs.YtghpmhllpaheiaaGreatDoor
variable {w:World} {b X g:Nat}
section
open Go.RowKit Go.Lib
open Go.Sort (swp ltInt)
def kF (w:World) (b:Nat) (X:Nat):Prop:=w.heap[b]?=some (.cells #[.int .u64 X] 291 (0,0))
theorem kF.cell (h:kF w b X):w.cell? ⟨b,0,none⟩=some (.int .u64 X):=by rw[aB w b 0 _ _ _ h];rfl
theorem kF.set (h:kF w b X) (Y:Nat):kF (w.setCell ⟨b,0,none⟩ (.int .u64 Y)) b Y:=by
 unfold kF at h ⊢;rw[aC w b 0 _ _ _ _ h];rfl
def XO (rb:Nat) (w:World) (e:Ending) (w':World):Prop:=∃ Y:Nat,Y<18446744073709551616/\e=.returned (.int .u64 Y)/\kF w' rb Y/\w.grownBy w' (some rb)
theorem zem (rb X:Nat) (hX:X<18446744073709551616) (w:World) (h:kF w rb X):Calls Tryz.prog 146 #[.pointer (some ⟨rb,0,none⟩)] w (XO rb w):=by
 obtain⟨A,hA⟩:∃ A:Nat,A=X^^^(X*8192%18446744073709551616):=⟨_,rfl⟩;obtain⟨B,hB⟩:∃ B:Nat,B=A^^^(A / 128):=⟨_,rfl⟩;obtain⟨C,hC⟩:∃ C:Nat,C=B^^^(B*131072%18446744073709551616):=⟨_,rfl⟩;have lA:A<18446744073709551616:=by rw[hA];exact Nat.xor_lt_two_pow (n:=64) (by omega) (by omega)
 have lB:B<18446744073709551616:=by rw[hB];exact Nat.xor_lt_two_pow (n:=64) (by omega) (by omega)
 have lC:C<18446744073709551616:=by rw[hC];exact Nat.xor_lt_two_pow (n:=64) (by omega) (by omega)
 have e1:bits .xor .u64 (X:Int) (IntKind.u64.wrap ((X:Int)*8192))=(A:Int):=by
  rw[IntKind.wrap_u64,show ((X:Int)*8192%18446744073709551616)=((X*8192%18446744073709551616:Nat):Int) by omega,bits_xor_u64_nat _ _ hX (by omega),hA]
 have e2:bits .xor .u64 (A:Int) ((A:Int) / 128)=(B:Int):=by
  rw[show ((A:Int) / 128)=((A / 128:Nat):Int) by omega,bits_xor_u64_nat _ _ lA (by omega),hB]
 have e3:bits .xor .u64 (B:Int) (IntKind.u64.wrap ((B:Int)*131072))=(C:Int):=by
  rw[IntKind.wrap_u64,show ((B:Int)*131072%18446744073709551616)=((B*131072%18446744073709551616:Nat):Int) by omega,bits_xor_u64_nat _ _ lB (by omega),hC]
 have LC:=zh lC;clear hA hB hC lC;have H0:=zh (zAi h (eK w (some rb)));clear h;go_enter Tryz.func146,Tryz.ntmps146;go_upto_region 1 with (fail)
 have hc:=H0.o.1.cell;have hf:=aM _ rb 0 _ _ H0.o.1;go_cut [] (λwx=>kF wx rb A/\w.grownBy wx (some rb))
 case first=>
  go_region
  all_goals (go_wp2_with (fail);go_meet)
  case rel=>exact⟨kF.set (w:=World.drewN _ _) H0.o.1 A,aD (bH H0.o.2 _) (jN _ _ _ _)⟩
 case rest=>
  have H1:=zh hcut;clear hcut hc hf;go_upto_region 2 with (fail)
  have hc:=H1.o.1.cell;have hf:=aM _ rb 0 _ _ H1.o.1;go_cut [] (λwx=>kF wx rb B/\w.grownBy wx (some rb))
  case first=>
   go_region
   all_goals (go_wp2_with (fail);go_meet)
   case rel=>exact⟨kF.set (w:=World.drewN _ _) H1.o.1 B,aD (bH H1.o.2 _) (jN _ _ _ _)⟩
  case rest=>
   have H2:=zh hcut;clear hcut hc hf;go_upto_region 3 with (fail)
   have hc:=H2.o.1.cell;have hf:=aM _ rb 0 _ _ H2.o.1;go_cut [] (λwx=>kF wx rb C/\w.grownBy wx (some rb))
   case first=>
    go_region
    all_goals (go_wp2_with (fail);go_meet)
    case rel=>exact⟨kF.set (w:=World.drewN _ _) H2.o.1 C,aD (bH H2.o.2 _) (jN _ _ _ _)⟩
   case rest=>
    have H3:=zh hcut;clear hcut hc hf;have hc:=H3.o.1.cell;have hf:=aM _ rb 0 _ _ H3.o.1;go_wp2;go_ret;exact⟨C,LC.o,rfl,H3.o.1,H3.o.2⟩
def PowO (n:Nat) (w:World) (e:Ending) (w':World):Prop:=∃ M:Nat,1<=M/\M<=2*n/\e=.returned (.int .u64 M)/\w=w'
theorem zfk (x:Nat) (h0:0<x) (h:x<2^64):2^Lib.bitLen x<=2*x:=by
 induction x using Nat.strongRecOn with
 | _ x ih=>
  rw[Lib.bitLen_half x (by omega) h,Nat.add_comm,Nat.pow_succ];by_cases h2:2<=x
  . have:=ih (x / 2) (by omega) (by omega) (by omega)
    omega
  obtain rfl:x=1:=by omega
  decide
theorem zdk (n:Nat) (h0:0<n) (h:n<1000000000):∃ k:Nat,Lib.bitLen n=k/\k<=62/\1<=2^k/\2^k<=2*n:=by
 have hp:=zfk n h0 (by omega);refine⟨Lib.bitLen n,rfl,?_,Nat.one_le_two_pow,hp⟩
 rcases zLg 62 (Lib.bitLen n) with h1|h1
 . have:2^62<=2^Lib.bitLen n:=Nat.pow_le_pow_right (by decide) (by omega)
   omega
 exact h1
theorem wrap_pow (k:Nat) (hk:k<=62):IntKind.u64.wrap ((2:Int)^k)=((2^k:Nat):Int):=by
 have h:(2:Nat)^k<=2^62:=Nat.pow_le_pow_right (by decide) hk;rw[IntKind.wrap_u64,show ((2:Int)^k)=((2^k:Nat):Int) by push_cast;rfl];generalize (2:Nat)^k=p at h;omega
theorem zd3 (n:Nat) (h0:0<n) (h:n<1000000000) (w:World):Calls Tryz.prog 145 #[.int .i64 n] w (PowO n w):=by
 obtain⟨k,hk,Gv,h1,h2⟩:=zdk n h0 h;have BU:∀ w,Calls Tryz.prog 101 #[.int .u64 (n:Int)] w λe w'=>e=.returned (.int .i64 (k:Nat))/\w=w':=λw=>by
  have h:=Tryz.bits_Len (n:Int) w (by omega) (by omega);rw[Int.toNat_natCast,hk] at h;exact h.mono λ_ _ h=>⟨h.1,h.2.symm⟩
 have hp:=wrap_pow k Gv;obtain⟨M,hM⟩:=zE (2^k);rw[<-hM] at hp h1 h2;clear hM;go_enter Tryz.func145,Tryz.ntmps145;go_wp2_with (first|(go_at_call 101;refine (BU _).mono ?_;rintro e w' ⟨rfl,rfl⟩));go_ret;exact⟨M,h1,h2,rfl,rfl⟩
theorem zdS {w1 w2:World} (h:w.grownBy w1 (some b)) (k:w1.grownBy w2 (some g)) (hg:w.heap.size<=g):w.grownBy w2 (some b):=
 ⟨k.os.trans h.os,k.tape.trans h.tape,k.output.trans h.output,zT h.size k.size,λi hi hr=>(k.block i (zLd hi h.size) (λe=>by cases e;omega)).trans (h.block i hi hr)⟩
theorem iK.fresh {n:Nat} {r:List Value} {w1 w2:World} {d:Array Int} (h:iK b n r w d w1) (k:w1.grownBy w2 (some g)) (hg:w.heap.size<=g) (hb:b<w.heap.size):iK b n r w d w2:=
 ⟨h.1,h.2.1.grown k (by omega),zdS h.2.2 k hg⟩
theorem kF.grown {w':World} (h:kF w b X) (hg:w.grownBy w' (some g)) (qo:b≠g):kF w' b X:=
 (hg.block b (aA h) (λe=>qo (by cases e;rfl))).trans h
theorem zaa (blk n cap a b:Nat) (r:List Value) (d:Array Int) (w:World) (hR:dQ w blk d r) (hn:d.size=n) (Xz:a+8<=b) (hb:b<=n) (Qc:n<1000000000):
 Calls Tryz.prog 117 #[.slice (some ⟨blk,0,none⟩) n cap,.int .i64 a,.int .i64 b] w λe w'=>e=.returned (.tuple #[])/\∃ d',Sort.PermIn a b d d'/\iK blk n r w d' w':=by
 have Hf:=hR.lt;obtain⟨l,hl⟩:=zE (b-a);obtain⟨q,hq⟩:=zE (l / 4);have uh:IntKind.i64.wrap ((b:Int)-(a:Int))=(l:Int):=by rw[zIn _ (by omega)];omega
 have OX:(b:Int)-(a:Int)=(l:Int):=by omega
 have Xe:(l:Int) / 4=(q:Int):=by omega
 obtain⟨i,hi⟩:∃ i,i+1=a+q*2:=⟨a+q*2-1,by omega⟩;have ui:(a:Int)+(q:Int)*2=(i:Int)+1:=by omega
 have C9:(q:Int)<1000000000:=by omega
 have ki:(a:Int)<1000000000:=by omega
 have Xh:(i:Int)<1000000000:=by omega
 have JT:=(zBr w.heap.size w).alloc (zR _) (.cells #[.int .u64 l] 291);have sx:kF (w.alloc (.cells #[.int .u64 l] 291)) w.heap.size l:=by unfold kF;rw[aN,zP rfl]
 have j8:iK blk n r w d (w.alloc (.cells #[.int .u64 l] 291)):=⟨hn,(JT.block blk Hf).trans hR,aF JT _⟩;have h8:(8:Int)<=(l:Int):=by omega
 have Pk:a<i/\i+2<b/\0<l/\l<1000000000:=by omega
 have HL:=zh (zAi hl (zAi hq Xz));clear hR hn hl hq hi;have WM:=zh sx;have Bt:=zh j8;clear JT sx j8;go_enter Tryz.func117,Tryz.ntmps117;go_wp2_with (fail);refine (zd3 l Pk.2.2.1 Pk.2.2.2 _).mono ?_;rintro e w0 ⟨M,I3,I4,rfl,rfl⟩;obtain⟨M1,W5⟩:∃ M1,M1+1=M:=⟨M-1,by omega⟩;have hwM:IntKind.u64.wrap ((M:Int)-1)=(M1:Int):=by rw[IntKind.wrap_u64];omega
 have W4:M1<2*l:=by omega
 clear W5 I3 I4;go_wp2_with (fail);go_loopw [9,10] (λs9 _ wr=>∃ (j X:Nat) (dk:Array Int),s9=.int .i64 j/\i<=j/\j<=i+3/\X<18446744073709551616/\kF wr w.heap.size X/\iK blk n r w dk wr/\Sort.PermIn a b d dk) (λs9 _ _=>i+3-(RowKit.intOf s9).toNat)
 case atStart=>exact⟨i,l,d,by first|rfl|(congr 1;omega),zR _,by omega,by omega,WM.o,Bt.o,Go.Sort.permIn_refl _ _ _⟩
 case round=>
  obtain⟨j,X,dk,rfl,o6,A1,hX,hU,hS,hP⟩:=hrel;have HU:=zh hU;have HS:=zh hS;have HP:=zh hP;clear hU hS hP;by_cases hj:j<=i+2;rotate_left
  . have hz:¬ (j:Int)<=(i:Int)+1+1:=by omega
    go_wp2_with (fail);go_end0;exact⟨rfl,dk,HP.o,HS.o⟩
  have hz:(j:Int)<=(i:Int)+1+1:=by omega
  go_wp2_with (fail);refine (zem w.heap.size X hX _ HU.o).mono ?_;rintro e w1 ⟨Y,hY,rfl,Nw,Qv⟩;have Ai:=zh Nw;have Ye:=zh (HS.o.fresh Qv (zR _) Hf);clear Nw Qv;obtain⟨o,ho⟩:=zE (Y&&& M1);have Sg:bits .and .u64 (Y:Int) (M1:Int)=(o:Int):=by rw[ho];exact bits_and_u64_nat Y M1 hY (by omega)
  have hoM:o<=M1:=by rw[ho];exact Nat.and_le_right
  have X6:(o:Int)<2000000000:=by omega
  have Ij:IntKind.i64.wrap (o:Int)=(o:Int):=zIn _ (by omega);have hwol:IntKind.i64.wrap ((o:Int)-(l:Int))=(o:Int)-(l:Int):=by have:=Pk;exact zIn _ (by omega)
  have wO:=zh (zAi ki (zAi Xh C9));clear ho;go_upto_if 43 with (fail)
  clear X6 ki Xh C9;go_cut [10] (λs wx=>∃ o2:Nat,s=.int .i64 o2/\o2<l/\wx=w1)
  case first=>
   by_cases Sz:l<=o
   . have Kx:decide ((l:Int)<=(o:Int))=true:=by simp;omega
     go_wp2_with (fail);go_meet
     case rel=>exact⟨o-l,by congr 1;omega,by omega,rfl⟩
   . have Kx:decide ((l:Int)<=(o:Int))=false:=by simp;omega
     go_wp2_with (fail);go_meet
     case rel=>exact⟨o,rfl,by omega,rfl⟩
  case rest=>
   obtain⟨o2,rfl,JX,rfl⟩:=hcut;obtain⟨f,hf⟩:=zE (a+o2);have QO:IntKind.i64.wrap ((a:Int)+(o2:Int))=(f:Int):=by rw[zIn _ (by omega)];omega
   have UA:(f:Int)<(n:Int):=by have:=HL.o;omega
   have Le:(j:Int)<(n:Int):=by have:=HL.o;omega
   have Ys:a<=f/\f<b:=by have:=HL.o;omega
   clear hf;have c0:=Ye.o.2.1.cell j (by have:=Ye.o.1;omega);have c1:=Ye.o.2.1.cell f (by have:=Ye.o.1;omega);have YM:=Ye.o.2.1.free j;have QT:=Ye.o.2.1.free f;have Xh:=wO.o.2.1;by_cases heq:j=f
   . subst heq
     go_wp2_with (fail)
     go_region
     all_goals go_wp2_with (fail)
     all_goals go_roundw
     case rel=>
      refine⟨j+1,Y,swp dk j j,by go_num,by omega,by omega,hY,kF.grown (w:=World.drewN _ _) Ai.o (rJ _ _ _ _ _ _) (by omega),Ye.o.drewN _ |>.swap j j (by omega) (by omega),?_⟩;exact Go.Sort.permIn_trans _ _ _ _ _ HP.o (Go.Sort.swp_permIn dk a b j j Ys.1 Ys.2 Ys.1 Ys.2 (by have:=Ye.o.1;omega))
     case measure=>(simp[zI]<;>omega)
   have ZU:¬ f=j:=λe=>heq e.symm
   go_wp2_with (fail)
   go_region
   all_goals go_wp2_with (fail)
   all_goals go_roundw
   case rel=>
    refine⟨j+1,Y,swp dk j f,by go_num,by omega,by omega,hY,kF.grown (w:=World.drewN _ _) Ai.o (rJ _ _ _ _ _ _) (by omega),Ye.o.drewN _ |>.swap j f (by omega) (by omega),?_⟩;exact Go.Sort.permIn_trans _ _ _ _ _ HP.o (Go.Sort.swp_permIn dk a b j f (by omega) (by omega) Ys.1 Ys.2 (by have:=Ye.o.1;omega))
   case measure=>(simp[zI]<;>omega)
end
section
open Go.RowKit
open Go.Sort (swp ltInt)
def Gd (a b ak bk:Nat) (d dk:Array Int):Prop:=∀ R,Sort.PermIn ak bk dk R->Sort.SortedIn ltInt ak bk R->Sort.PermIn a b d R/\Sort.SortedIn ltInt a b R
def SO (blk n:Nat) (r:List Value) (a b:Nat) (d:Array Int) (w:World) (e:Ending) (w':World):Prop:=
 e=.returned (.tuple #[])/\∃ d',Sort.PermIn a b d d'/\Sort.SortedIn ltInt a b d'/\iK blk n r w d' w'
def PdqC (m:Nat):Prop:=∀ (blk n cap a b limit:Nat) (r:List Value) (d:Array Int) (w:World),b-a<m->dQ w blk d r->d.size=n->a<=b->b<=n->n<1000000->limit<=1000->Sort.Below ltInt a b d->
 Calls Tryz.prog 100 #[.slice (some ⟨blk,0,none⟩) n cap,.int .i64 a,.int .i64 b,.int .i64 limit] w (SO blk n r a b d w)
theorem swoI:Sort.SWO ltInt:=Sort.swo_ltInt
theorem Gd.perm {a ak bk:Nat} {d dk dl:Array Int} (h:Gd a b ak bk d dk) (hp:Sort.PermIn ak bk dk dl):Gd a b ak bk d dl:=λR hR hS=>h R (Sort.permIn_trans _ _ _ _ _ hp hR) hS
theorem pdq_any (m:Nat) (ih:PdqC m):PdqC (m+1):=by
 intro blk n cap a b limit r d w hm hR hn Xz hb Qc Of Fj;have IH:=zh ih;have Vc:=zh (iK.refl (w:=w) hR hn);have Q8:=zh Qc;have HM:=zh hm;have wQ:=zh Fj;have iu:n<1000000000:=by omega
 have j4:=zh iu;clear hR hn ih Qc hm Fj iu;go_enter Tryz.func100,Tryz.ntmps100;go_wp2;go_loopw [1,2,3,8,9] (λs1 s2 s3 s8 s9 wr=>∃ (ak bk lk:Nat) (wb wp:Bool) (dk:Array Int),s1=.int .i64 ak/\s2=.int .i64 bk/\s3=.int .i64 lk/\s8=.bool wb/\s9=.bool wp/\a<=ak/\ak<=bk/\bk<=b/\lk<=1000/\
  Sort.Below ltInt ak bk dk/\Gd a b ak bk d dk/\iK blk n r w dk wr) (λs1 s2 _ _ _ _=>(RowKit.intOf s2-RowKit.intOf s1).toNat)
 case atStart=>exact⟨a,b,limit,true,true,d,rfl,rfl,rfl,rfl,rfl,zR _,Xz,zR _,Of,wQ.o,λR h1 h2=>⟨h1,h2⟩,Vc.o⟩
 case round=>
  obtain⟨ak,bk,lk,wb,wp,dk,rfl,rfl,rfl,rfl,rfl,jc,B1,W8,P9,RQ,RZ,sm⟩:=hrel;have HB:=zh RQ;have HG:=zh RZ;have HS:=zh sm;obtain⟨l,hl⟩:=zE (bk-ak);have uh:IntKind.i64.wrap ((bk:Int)-(ak:Int))=(l:Int):=by have:=Q8.o;rw[zIn _ (by omega)];omega
  have Ig:wrap64 ((bk:Int)-(ak:Int))=(l:Int):=by have:=Q8.o;unfold wrap64;omega
  have HL:=zh hl;have Lv:=zh W8;have Xo:bk<=n:=by omega
  clear RQ RZ sm hl;by_cases RE:l<=12
  . have hz:(l:Int)<=12:=by omega
    go_wp2_with (fail);refine (zb9 blk n cap ak bk r dk _ HS.o.2.1 HS.o.1 B1 Xo j4.o).mono ?_;rintro e w1 ⟨rfl,Q6⟩;go_wp2_with (fail);refine bodyPost_ret (v:=.tuple #[]) (by simp[results,Tryz.results100,go_sem]) rfl ?_;obtain⟨q1,q2⟩:=Sort.insertionSort_holds swoI dk ak bk B1 (by rw[HS.o.1];exact Xo);obtain⟨p1,p2⟩:=HG.o _ q1 q2;exact⟨rfl,_,p1,p2,HS.o.trans Q6⟩
  have hz:¬ (l:Int)<=12:=by omega
  have Sd:ak+13<=bk:=by have:=HL.o;omega
  by_cases QG:lk=0
  . have K6:((lk:Int)==0)=true:=by simp[QG]
    clear QG;go_wp2_with (fail);refine (zcW blk n cap ak bk r dk _ HS.o.2.1 HS.o.1 (by omega) Xo j4.o).mono ?_;rintro e w1 ⟨rfl,Q6⟩;go_wp2_with (fail);refine bodyPost_ret (v:=.tuple #[]) (by simp[results,Tryz.results100,go_sem]) rfl ?_;obtain⟨q1,q2⟩:=Sort.heapSort_holds swoI dk ak bk B1 (by rw[HS.o.1];exact Xo);obtain⟨p1,p2⟩:=HG.o _ q1 q2;exact⟨rfl,_,p1,p2,HS.o.trans Q6⟩
  have K6:((lk:Int)==0)=false:=by simp[QG]
  have Y9:1<=lk:=by omega
  go_upto_if 35 with (fail)
  go_cut [3] (λs3 wx=>∃ (l2:Nat) (d1:Array Int),s3=.int .i64 l2/\l2<=1000/\Sort.PermIn ak bk dk d1/\iK blk n r w d1 wx)
  case first=>
   cases wb with
   | true=>
    go_wp2_with (fail);go_meet
    case rel=>exact⟨lk,dk,rfl,P9,Sort.permIn_refl _ _ _,HS.o⟩
   | false=>
    go_wp2_with (fail);refine (zaa blk n cap ak bk r dk _ HS.o.2.1 HS.o.1 (by omega) Xo j4.o).mono ?_;rintro e w1 ⟨rfl,d1,qz,Q6⟩;have qy:=zh qz;have Ye:=zh Q6;clear qz Q6;go_wp2_with (fail);go_meet
    case rel=>exact⟨lk-1,d1,by congr 1;omega,by omega,qy.o,HS.o.trans Ye.o⟩
  case rest=>
   obtain⟨l2,d1,rfl,Yt,qz,Q6⟩:=hcut;have Vm:=zh (HG.o.perm qz);have Kb:=zh (HB.o.perm (by rw[HS.o.1];exact Xo) qz);have Ye:=zh Q6;clear qz Q6 HG HB HS;go_wp2_with (fail);refine (zaC blk n cap ak bk r d1 _ Ye.o.2.1 Ye.o.1 (by omega) Xo j4.o).mono ?_;rintro e w2 ⟨p,hh,rfl,qz,Qy,TH,Hr⟩;have Qs:zH (iK blk n r w d1 w2):=zh (Ye.o.trans ⟨Ye.o.1,(Hr.block _ Ye.o.2.1.lt).trans Ye.o.2.1,aF Hr _⟩);clear Hr Ye;go_upto_if 50 with (fail)
   go_cut [11,12] (λvv s12 wx=>∃ (p2 h2:Nat) (d2:Array Int),vv=.int .i64 p2/\s12=.int .i64 h2/\ak<=p2/\p2<bk/\h2<=2/\Sort.PermIn ak bk d1 d2/\iK blk n r w d2 wx)
   case first=>
    cases hd:((hh:Int)==2) with
    | false=>
     go_wp2_with (fail);go_meet
     case rel=>exact⟨p,hh,d1,rfl,rfl,qz,Qy,TH,Sort.permIn_refl _ _ _,Qs.o⟩
    | true=>
     go_wp2_with (fail);refine (zee blk n cap ak bk r d1 _ Qs.o.2.1 Qs.o.1 (by omega) Xo j4.o).mono ?_;rintro e w3 ⟨rfl,d2,ez,X2⟩;have xx:=zh ez;have QC:=zh (Qs.o.trans X2);obtain⟨b1,Hk⟩:∃ x,x+1=bk:=⟨bk-1,by omega⟩;obtain⟨pa,Vf⟩:∃ x,x+ak=p:=⟨p-ak,by omega⟩;obtain⟨p2,Oq⟩:∃ x,x+pa=b1:=⟨b1-pa,by omega⟩;have e1:wrap64 ((bk:Int)-1)=(b1:Int):=by have:=Q8.o;unfold wrap64;omega
     have e2:wrap64 ((p:Int)-(ak:Int))=(pa:Int):=by have:=Q8.o;unfold wrap64;omega
     have e3:wrap64 ((b1:Int)-(pa:Int))=(p2:Int):=by have:=Q8.o;unfold wrap64;omega
     have JY:ak<=p2/\p2<bk:=by omega
     clear ez X2 Hk Vf Oq;go_wp2_with (fail);go_meet
     case rel=>exact⟨p2,1,d2,by first|rfl|rw[e3],rfl,JY.1,JY.2,by omega,xx.o,QC.o⟩
   case rest=>
    obtain⟨p2,h2,d2,rfl,rfl,UQ,UR,Zm,ez,QD⟩:=hcut;have PM:=zh (Vm.o.perm ez);have YI:=zh (Kb.o.perm (by rw[Qs.o.1];exact Xo) ez);have QC:=zh QD;clear ez QD Vm Kb Qs qz Qy TH;go_upto_region 15 with (fail);obtain⟨wy,wI⟩:∃ x:World,x=wc:=⟨_,rfl⟩;have Mh:=zh wI;clear wI;go_cut [68] (λs wx=>∃ c:Bool,s=.bool c/\wx=wy)
    case first=>
     cases wb<;>cases wp<;>cases hd:((h2:Int)==1)
     all_goals (go_wp2_with (fail);go_meet;exact⟨_,rfl,Mh.o.symm⟩)
    case rest=>
     obtain⟨c,rfl,O5⟩:=hcut;rw[<-Mh.o,<-O5] at QC;clear O5 Mh;go_upto_if 68 with (fail);go_cut [] (λwx=>∃ d3:Array Int,Sort.PermIn ak bk d2 d3/\iK blk n r w d3 wx)
     case first=>
      cases c with
      | false=>
       go_wp2_with (fail);go_meet
       case rel=>exact⟨d2,Sort.permIn_refl _ _ _,QC.o⟩
      | true=>
       go_wp2_with (fail);refine (uM blk n cap ak bk r d2 _ QC.o.2.1 QC.o.1 (by omega) Xo j4.o).mono ?_;rintro e w4 ⟨rfl,FF⟩;have yc:=zh (Sort.partialInsertionSort_holds swoI d2 ak bk (by omega) (by rw[QC.o.1];exact Xo) YI.o);have Vp:=zh (QC.o.trans FF);clear FF;cases Ju:(Sort.partialInsertionSort ltInt d2 ak bk).2 with
       | false=>
        go_wp2_with (fail);go_meet
        case rel=>exact⟨_,yc.o.1,Vp.o⟩
       | true=>
        have JM:=zh Ju;go_wp2_with (fail);refine bodyPost_ret (v:=.tuple #[]) (by simp[results,Tryz.results100,go_sem]) rfl ?_;obtain⟨p1,p2⟩:=PM.o _ yc.o.1 (yc.o.2 JM.o);exact⟨rfl,_,p1,p2,Vp.o⟩
     case rest=>
      obtain⟨d3,Av,FF⟩:=hcut;have EN:=zh (PM.o.perm Av);have tH:=zh (YI.o.perm (by rw[QC.o.1];exact Xo) Av);have Vp:=zh FF;clear Av FF PM YI QC;go_upto_region 17 with (fail);obtain⟨q,hq⟩:=zE (ak-1);have HQ:=zh hq;go_cut [87] (λs wx=>∃ c:Bool,s=.bool c/\(c=true->0<ak/\ltInt d3[ak-1]! d3[p2]! =false)/\iK blk n r w d3 wx)
      case first=>
       by_cases Sb:0<ak
       . have hz:(0:Int)<(ak:Int):=by omega
         have Kx:decide ((0:Int)<(ak:Int))=true:=by simpa using hz
         have e1:IntKind.i64.wrap ((ak:Int)-1)=(q:Int):=by have:=Q8.o;rw[zIn _ (by omega)];omega
         have C9:(q:Int)<(n:Int):=by omega
         have TN:(p2:Int)<(n:Int):=by omega
         have c0:=Vp.o.2.1.cell q (by have:=Vp.o.1;omega);have c1:=Vp.o.2.1.cell p2 (by have:=Vp.o.1;omega);clear hq;cases hl:ltInt d3[q]! d3[p2]! with
         | true=>
          have QK:=zh hl;go_quiet ((go_at_call 94;exact Calls.quiet_of_same (eM _ _ _)));go_wp2_with (fail);go_meet
          case rel=>exact⟨false,rfl,λh=>(by cases h),Vp.o.drewN _⟩
         | false=>
          have QK:=zh hl;go_quiet ((go_at_call 94;exact Calls.quiet_of_same (eM _ _ _)));go_wp2_with (fail);go_meet
          case rel=>exact⟨true,rfl,λ_=>⟨Sb,by rw[<-HQ.o];exact QK.o⟩,Vp.o.drewN _⟩
       . have Kx:decide ((0:Int)<(ak:Int))=false:=by simp;omega
         clear hq;go_quiet (fail);go_wp2_with (fail);go_meet
         case rel=>exact⟨false,rfl,λh=>(by cases h),Vp.o.drewN _⟩
      case rest=>
       clear hq;obtain⟨c,rfl,hc,e7⟩:=hcut;have HC:=zh hc;have PR:=zh e7;clear hc e7 Vp;cases c with
       | true=>
        go_wp2_with (fail);refine (yF blk n cap ak bk p2 r d3 _ PR.o.2.1 PR.o.1 UQ UR Xo j4.o).mono ?_;rintro e w6 ⟨rfl,PX⟩;have hx:Sort.partitionEqual ltInt d3 ak bk p2=((Sort.partitionEqual ltInt d3 ak bk p2).1,(Sort.partitionEqual ltInt d3 ak bk p2).2):=rfl;obtain⟨Kp,TJ,Dx,Fg,Hm⟩:=Sort.round_eq swoI (Sort.partitionEqual_holds ltInt) (HC.o (by first|rfl|trivial)).1 UQ UR (by rw[PR.o.1];exact Xo) tH.o (HC.o (by first|rfl|trivial)).2 hx;have Qe:=zh Fg
        have Wg:zH (Gd a b (Sort.partitionEqual ltInt d3 ak bk p2).1 bk d (Sort.partitionEqual ltInt d3 ak bk p2).2):=zh (λR h1 h2=>(λq=>EN.o R q.1 q.2) (Hm R h1 h2));have TA:=zh (PR.o.trans PX);clear hx Fg Hm PX Dx;generalize (Sort.partitionEqual ltInt d3 ak bk p2).1=V0 at*;generalize (Sort.partitionEqual ltInt d3 ak bk p2).2=d6 at*;go_wp2_with (fail);go_roundw
        case rel=>exact⟨V0,bk,l2,wb,wp,d6,rfl,rfl,rfl,rfl,rfl,by omega,TJ,Lv.o,Yt,Qe.o,Wg.o,TA.o⟩
        case measure=>(simp[zI]<;>omega)
       | false=>
        go_wp2_with (fail);refine (zcm blk n cap ak bk p2 r d3 _ PR.o.2.1 PR.o.1 UQ UR Xo j4.o).mono ?_;rintro e w6 ⟨rfl,PX⟩;have hx:Sort.partition ltInt d3 ak bk p2=((Sort.partition ltInt d3 ak bk p2).1,(Sort.partition ltInt d3 ak bk p2).2.1,(Sort.partition ltInt d3 ak bk p2).2.2):=rfl;obtain⟨g1,g2,Dx,Nq,RR,NJ,Cd⟩:=Sort.round_part swoI (Sort.partition_holds ltInt) UQ UR (by rw[PR.o.1];exact Xo) tH.o hx;have wW:=zh Nq;have wY:=zh RR;have LV:=zh NJ;have mo:=zh Cd
        have TA:=zh (PR.o.trans PX);clear hx Nq RR NJ Cd PX Dx;generalize (Sort.partition ltInt d3 ak bk p2).1=V0 at*;generalize (Sort.partition ltInt d3 ak bk p2).2.1=apx at*;generalize (Sort.partition ltInt d3 ak bk p2).2.2=d6 at*;obtain⟨ll,UJ⟩:∃ x,x+ak=V0:=⟨V0-ak,by omega⟩;obtain⟨rl,Qz⟩:∃ x,x+V0=bk:=⟨bk-V0,by omega⟩;have hf:V0-ak<m/\bk-(V0+1)<m/\V0<=n/\V0+1<=bk/\a<=V0+1/\V0<=b:=by have:=HM.o;have:=Lv.o;omega
        have e1:wrap64 ((V0:Int)-(ak:Int))=(ll:Int):=by have:=Q8.o;unfold wrap64;omega
        have e2:wrap64 ((bk:Int)-(V0:Int))=(rl:Int):=by have:=Q8.o;unfold wrap64;omega
        have e5:wrap64 ((V0:Int)+1)=((V0+1:Nat):Int):=by have:=Q8.o;unfold wrap64;omega
        clear UJ Qz;by_cases C8:ll<rl
        . have hz:(ll:Int)<(rl:Int):=by omega
          go_wp2_with (fail);refine (IH.o blk n cap ak V0 l2 r d6 _ hf.1 TA.o.2.1 TA.o.1 g1 hf.2.2.1 Q8.o Yt wW.o).mono ?_;rintro e w7 ⟨rfl,L,Fy,Ap,FG⟩;obtain⟨Fh,Hm⟩:=LV.o L Fy Ap;have TX:=zh Fh;have CD:zH (Gd a b (V0+1) bk d L):=zh (λR h1 h2=>(λq=>EN.o R q.1 q.2) (Hm R h1 h2));have fp:=zh (TA.o.trans FG);clear Fy Ap FG Fh Hm e1 e2;go_wp2_with (fail);go_roundw
          case rel=>exact⟨V0+1,bk,l2,_,apx,L,by first|rfl|rw[e5],rfl,rfl,rfl,rfl,hf.2.2.2.2.1,hf.2.2.2.1,Lv.o,Yt,TX.o,CD.o,fp.o⟩
          case measure=>(simp only[e5];clear e5 uh Ig CD fp TX LV mo;simp[RowKit.intOf]<;>omega)
        have hz:¬ (ll:Int)<(rl:Int):=by omega
        go_wp2_with (fail);rw[e5];refine (IH.o blk n cap (V0+1) bk l2 r d6 _ hf.2.1 TA.o.2.1 TA.o.1 hf.2.2.2.1 Xo Q8.o Yt wY.o).mono ?_;rintro e w7 ⟨rfl,L,Fy,Ap,FG⟩;obtain⟨Fh,Hm⟩:=mo.o L Fy Ap;have TX:=zh Fh;have CD:zH (Gd a b ak V0 d L):=zh (λR h1 h2=>(λq=>EN.o R q.1 q.2) (Hm R h1 h2));have fp:=zh (TA.o.trans FG);clear Fy Ap FG Fh Hm e1 e2;go_wp2_with (fail);go_roundw
        case rel=>exact⟨ak,V0,l2,_,apx,L,rfl,rfl,rfl,rfl,rfl,jc,g1,hf.2.2.2.2.2,Yt,TX.o,CD.o,fp.o⟩
        case measure=>(clear e5 uh Ig CD fp TX LV mo;simp[RowKit.intOf]<;>omega)
end
section
open Go.RowKit
open Go.Sort (swp ltInt)
theorem pdq_all:∀ m,PdqC m
 | 0=>λ_ _ _ _ _ _ _ _ _ hm=>absurd hm (Nat.not_lt_zero _)
 | m+1=>pdq_any m (pdq_all m)
theorem sort_any (blk n cap:Nat) (r:List Value) (d:Array Int) (w:World) (hR:dQ w blk d r) (hn:d.size=n) (h0:0<n) (Qc:n<1000000):
 Calls Tryz.prog 83 #[.slice (some ⟨blk,0,none⟩) n cap] w (SO blk n r 0 n d w):=by
 obtain⟨k,hk,Gv,_,_⟩:=zdk n h0 (by omega);have BU:∀ w,Calls Tryz.prog 101 #[.int .u64 (n:Int)] w λe w'=>e=.returned (.int .i64 (k:Nat))/\w=w':=λw=>by
  have h:=Tryz.bits_Len (n:Int) w (by omega) (by omega);rw[Int.toNat_natCast,hk] at h;exact h.mono λ_ _ h=>⟨h.1,h.2.symm⟩
 have hP:=pdq_all (n+1) blk n cap 0 n k r d w (by omega) hR hn (zZ _) (zR _) Qc (by omega) (.inl rfl);have HP:=zh hP;clear hR hn hP;go_enter Tryz.func83,Tryz.ntmps83;go_wp2_with (first|(go_at_call 101;refine (BU _).mono ?_;rintro e w' ⟨rfl,rfl⟩)|fail);refine HP.o.mono ?_;rintro e w1 ⟨rfl,h⟩;have H:=zh h;clear h;go_wp2_with (fail);go_end0;exact⟨rfl,H.o⟩
end
section
open Go.RowKit
structure iW (B:Nat) (w:World) (bt:Nat) (T:iP) (bc cc br cr bg cg:Nat):Prop where
 lt:bt<B
 c0:w.cell? ⟨bt,0,none⟩=some (.slice (some ⟨bc,0,none⟩) T.cU.length cc)
 c1:w.cell? ⟨bt,1,none⟩=some (.slice (some ⟨br,0,none⟩) T.rU.length cr)
 c2:w.cell? ⟨bt,2,none⟩=some (.slice (some ⟨bg,0,none⟩) T.gO.length cg)
 c3:w.cell? ⟨bt,3,none⟩=some (.int .i64 T.bound)
 cU:∃ rc,dQ w bc T.cU.toArray rc
 ltc:bc<B
 rU:∀ (i:Nat) (x:Int),T.rU[i]?=some x->w.cell? ⟨br,i,none⟩=some (.int .i64 x)
 ltr:br<B
 gO:∀ (i:Nat) (row:List Int),T.gO[i]?=some row->∃ b c,w.cell? ⟨bg,i,none⟩=some (.slice (some ⟨b,0,none⟩) row.length c)/\b<B/\∀ (j:Nat) (x:Int),row[j]?=some x->w.cell? ⟨b,j,none⟩=some (.int .i64 x)
 ltg:bg<B
 cap0:T.cU.length<=cc
 size:T.cU.length<1000000/\T.gO.length<1000000
theorem iW.below {B:Nat} {w':World} {bt:Nat} {T:iP} {bc cc br cr bg cg:Nat} (h:iW B w bt T bc cc br cr bg cg) (hb:Below B w w'):iW B w' bt T bc cc br cr bg cg:=by
 have hc:∀ (b o:Nat),b<B->w'.cell? ⟨b,o,none⟩=w.cell? ⟨b,o,none⟩:=λb o Hf=>hb.cell (p:=⟨b,o,none⟩) Hf;refine⟨h.lt,by rw[hc _ _ h.lt];exact h.c0,by rw[hc _ _ h.lt];exact h.c1,by rw[hc _ _ h.lt];exact h.c2,by rw[hc _ _ h.lt];exact h.c3,?_,h.ltc,λi x hx=>by rw[hc _ _ h.ltr];exact h.rU i x hx,h.ltr,λi row hr=> ?_,h.ltg,h.cap0,h.size⟩
 . obtain⟨rc,hr⟩:=h.cU
   exact⟨rc,(hb.block bc h.ltc).trans hr⟩
 obtain⟨b,c,h1,h2,h3⟩:=h.gO i row hr
 exact⟨b,c,by rw[hc _ _ h.ltg];exact h1,h2,λj x hx=>by rw[hc _ _ h2];exact h3 j x hx⟩
