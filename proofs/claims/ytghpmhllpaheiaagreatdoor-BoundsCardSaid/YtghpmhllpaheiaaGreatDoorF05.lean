/- Part of a proof. No condition. -/
import Derived.Sort.LotD7
import Derived.Sort.AssemblyPlain
import Derived.Test.YtghpmhllpaheiaaGreatDoorF00
set_option linter.unusedVariables false
set_option linter.unusedSimpArgs false
set_option maxRecDepth 100000
set_option maxHeartbeats 4000000
namespace Go.Proofs.YtghpmhllpaheiaaGreatDoor
variable {w wr:World} {b n:Nat} {d:Array Int} {r:List Value}
section
open Go.RowKit Go.Lib
open Go.Sort (swp ltInt)
def dQ (w:World) (b:Nat) (d:Array Int) (rest:List Value):Prop:=
 w.heap[b]?=some (.cells (d.toList.map (Value.int .i32)++rest).toArray 21 (0,0))
theorem dQ.lt (h:dQ w b d r):b<w.heap.size:=aA h
theorem dQ.cell (h:dQ w b d r) (k:Nat) (hk:k<d.size):w.cell? ⟨b,k,none⟩=some (.int .i32 d[k]!):=by
 rw[aB w b k _ _ _ h];rw[zLa,zGl (by simpa using hk),List.getElem?_map,Array.getElem?_toList,Array.getElem?_eq_getElem hk,getElem!_pos d k hk];rfl
theorem dQ.free (h:dQ w b d r) (k:Nat):w.frozen? ⟨b,k,none⟩=false:=aM w b k _ _ h
theorem dQ.set (h:dQ w b d r) (k:Nat) (hk:k<d.size) (x:Int):dQ (w.setCell ⟨b,k,none⟩ (.int .i32 x)) b (d.setIfInBounds k x) r:=by
 unfold dQ at h ⊢;rw[aC w b k _ _ _ _ h];congr 2;apply Array.ext';simp[hk,List.set_append,List.map_set]
theorem dQ.swap (h:dQ w b d r) (i j:Nat) (hi:i<d.size) (hj:j<d.size):
 dQ ((w.setCell ⟨b,i,none⟩ (.int .i32 d[j]!)).setCell ⟨b,j,none⟩ (.int .i32 d[i]!)) b (swp d i j) r:=
 (h.set i hi _).set j (by simpa using hj) _
theorem dQ.drew (h:dQ w b d r):dQ w.drew b d r:=h
theorem less_any (x y:Int) (w:World):Calls Tryz.prog 94 #[.int .i32 x,.int .i32 y] w λe w'=>e=.returned (.bool (ltInt x y))/\w=w':=by
 unfold ltInt;have hn:∀ (x:Int) (w:World),Calls Tryz.prog 111 #[.int .i32 x] w λe w'=>e=.returned (.bool false)/\w=w':=by
  intro x w;go_enter Tryz.func111,Tryz.ntmps111;go_wp2;go_ret;exact⟨rfl,rfl⟩
 go_enter Tryz.func94,Tryz.ntmps94;go_wp2_with (go_at_call 111;refine (hn _ _).mono ?_;rintro e w' ⟨rfl,rfl⟩);go_ret;exact⟨rfl,rfl⟩
theorem eM (x y:Int) (w:World):Calls Tryz.prog 94 #[.int .i32 x,.int .i32 y] w λe w'=>e=.returned (.bool (ltInt x y))/\w'=w:=
 (less_any x y w).mono λ_ _ h=>⟨h.1,h.2.symm⟩
def iK (b n:Nat) (r:List Value) (w:World) (d:Array Int) (w':World):Prop:=d.size=n/\dQ w' b d r/\w.grownBy w' (some b)
theorem iK.refl (h:dQ w b d r) (hn:d.size=n):iK b n r w d w:=⟨hn,h,eK _ _⟩
theorem rJ (w:World) (b i j:Nat) (u v:Value):w.grownBy ((w.setCell ⟨b,i,none⟩ u).setCell ⟨b,j,none⟩ v) (some b):=
 ⟨rfl,rfl,rfl,by simp[World.setCell],λk _ hr=>by
  have hk:k≠b:=λe=>hr (by rw[e]);show ((w.setCell ⟨b,i,none⟩ u).setCell ⟨b,j,none⟩ v).heap[k]?=_;rw[aG _ _ _ _ hk,aG _ _ _ _ hk]⟩
theorem iK.swap (h:iK b n r w d wr) (i j:Nat) (hi:i<n) (hj:j<n):
 iK b n r w (swp d i j) ((wr.setCell ⟨b,i,none⟩ (.int .i32 d[j]!)).setCell ⟨b,j,none⟩ (.int .i32 d[i]!)):=
 ⟨by rw[Go.Sort.size_swp];exact h.1,h.2.1.swap i j (by have:=h.1;omega) (by have:=h.1;omega),aD h.2.2 (rJ _ _ _ _ _ _)⟩
theorem iK.drew (h:iK b n r w d wr):iK b n r w d wr.drew:=⟨h.1,h.2.1.drew,⟨h.2.2.os,h.2.2.tape,h.2.2.output,h.2.2.size,h.2.2.block⟩⟩
theorem iK.drewN (h:iK b n r w d wr) (k:Nat):iK b n r w d (wr.drewN k):=⟨h.1,h.2.1,⟨h.2.2.os,h.2.2.tape,h.2.2.output,h.2.2.size,h.2.2.block⟩⟩
theorem iK.trans {w1 w2:World} {d':Array Int} (h:iK b n r w d w1) (k:iK b n r w1 d' w2):iK b n r w d' w2:=⟨k.1,k.2.1,aD h.2.2 k.2.2⟩
theorem xJ (a b i:Nat) (d:Array Int) (h:i<b):Sort.insOuter ltInt a b i d=Sort.insOuter ltInt a b (i+1) (Sort.insInner ltInt a i d):=by rw[Sort.insOuter,zP h]
theorem zc2 (a b i:Nat) (d:Array Int) (h:¬ i<b):Sort.insOuter ltInt a b i d=d:=by rw[Sort.insOuter,zN h]
theorem zdW (a j:Nat) (d:Array Int) (h:a<j+1) (h2:ltInt d[j+1]! d[j]! =true):Sort.insInner ltInt a (j+1) d=Sort.insInner ltInt a j (swp d (j+1) j):=by
 rw[Sort.insInner,zP (by simp[h2];omega)]
theorem xI (a j:Nat) (d:Array Int) (h:¬ a<j+1\/ltInt d[j+1]! d[j]! =false):Sort.insInner ltInt a (j+1) d=d:=by
 rw[Sort.insInner,zN]
 rcases h with h|h
 . simp;omega
 simp[h]
theorem zb9 (blk n cap a b:Nat) (r:List Value) (d:Array Int) (w:World) (hR:dQ w blk d r) (hn:d.size=n) (Xz:a<=b) (hb:b<=n) (Qc:n<1000000000):
 Calls Tryz.prog 115 #[.slice (some ⟨blk,0,none⟩) n cap,.int .i64 a,.int .i64 b] w λe w'=>e=.returned (.tuple #[])/\iK blk n r w (Sort.insertionSort ltInt d a b) w':=by
 have HR:=zh hR;have HN:=zh hn;clear hR hn;unfold Sort.insertionSort;go_enter Tryz.func115,Tryz.ntmps115;go_wp2;go_loopw [6,7] (λi _ wr=>∃ (k:Nat) (dk:Array Int),i=.int .i64 k/\a+1<=k/\k<=b+1/\iK blk n r w dk wr/\Sort.insOuter ltInt a b k dk=Sort.insOuter ltInt a b (a+1) d) (λi _ _=>(b+1)-(RowKit.intOf i).toNat)
 case atStart=>exact⟨a+1,d,by go_num,by omega,by omega,iK.refl HR.o HN.o,rfl⟩
 case round=>
  obtain⟨k,dk,rfl,Kl,yi,hS,hE⟩:=hrel;have HE:=zh hE;have HS:=zh hS;clear hS hE;by_cases Hf:k<b
  . have hz:(k:Int)<(b:Int):=by omega
    obtain⟨wo,rfl⟩:∃ wo:World,wo=wr:=⟨_,rfl⟩;go_wp2;go_loopw [7] (λj wr=>∃ (jk:Nat) (dj:Array Int),j=.int .i64 jk/\jk<=k/\iK blk n r w dj wr/\Sort.insInner ltInt a jk dj=Sort.insInner ltInt a k dk) (λj _=>(RowKit.intOf j).toNat)
    case atStart=>exact⟨k,dk,rfl,zR _,HS.o,rfl⟩
    case round=>
     obtain⟨jk,dj,rfl,hj,si,RT⟩:=hrel;have LH:=zh RT;have Uk:=zh si;clear si RT;by_cases o7:a<jk
     . obtain⟨j,ZA⟩:∃ j,jk=j+1:=⟨jk-1,by omega⟩
       have K6:(a:Int)<(jk:Int):=by omega
       have Kx:decide ((a:Int)<(jk:Int))=true:=by simpa using K6
       have c1:=Uk.o.2.1.cell jk (by have:=Uk.o.1;omega);have c0:=Uk.o.2.1.cell j (by have:=Uk.o.1;omega);have hw:IntKind.i64.wrap ((jk:Int)-1)=(j:Int):=by rw[zIn _ (by omega)];omega
       have QT:=Uk.o.2.1.free jk;have YM:=Uk.o.2.1.free j;have Le:(jk:Int)<(n:Int):=by omega
       have Jn:(j:Int)<(n:Int):=by omega
       have SF:j≠jk:=by omega
       have Da:j+1=jk:=by omega
       have ym:=zdW a j dj;have Hl:=xI a j dj;rw[Da] at ym Hl;have jr:=zh ym;have Hq:=zh Hl;have ER:=zh Da;clear ZA ym Hl Da;cases hl:ltInt dj[jk]! dj[j]! with
       | true=>
        have QH:=zh (jr.o (by omega) hl);go_wp2;go_quiet ((go_at_call 94;exact Calls.quiet_of_same (eM _ _ _)));go_wp2
        go_region
        all_goals go_wp2
        all_goals go_roundw
        case rel=>
         have hi:=ER.o;refine⟨j,swp dj jk j,rfl,by omega,(Uk.o.drewN _).swap jk j (by omega) (by omega),by rw[<-QH.o,LH.o]⟩
        case measure=>simp[RowKit.intOf];have:=ER.o;omega
       | false=>
        have QH:=zh (Hq.o (.inr hl));go_wp2;go_quiet ((go_at_call 94;exact Calls.quiet_of_same (eM _ _ _)));go_wp2;go_roundw
        case rel=>exact⟨k+1,dj,by go_num,by omega,by omega,Uk.o.drewN _,by rw[<-HE.o,xJ a b k dk Hf,<-LH.o,QH.o]⟩
        case measure=>simp[RowKit.intOf];omega
     have Kx:decide ((a:Int)<(jk:Int))=false:=by simp;omega
     go_wp2;go_quiet (fail);go_wp2;go_roundw
     case rel=>exact⟨k+1,dj,by go_num,by omega,by omega,Uk.o.drewN _,by rw[<-HE.o,xJ a b k dk Hf,<-LH.o];cases jk with|zero=>rfl|succ j=>rw[xI a j dj (.inl (by omega))]⟩
     case measure=>simp[RowKit.intOf];omega
  have hz:¬ (k:Int)<(b:Int):=by omega
  go_wp2;go_end0;exact⟨rfl,by rw[<-HE.o,zc2 a b k dk Hf];exact HS.o⟩
end
section
open Go.RowKit Go.Lib
open Go.Sort (swp ltInt)
def yQ (d:Array Int) (hi F rk:Nat):Nat:=if 2*rk+1+1<hi/\ltInt d[F+(2*rk+1)]! d[F+(2*rk+1)+1]! =true then 2*rk+2 else 2*rk+1
theorem sift_step (d:Array Int) (hi F rk:Nat) (h:¬ 2*rk+1≥hi):
 Sort.siftDown ltInt hi F rk d=if ltInt d[F+rk]! d[F+yQ d hi F rk]! =true then Sort.siftDown ltInt hi F (yQ d hi F rk) (swp d (F+rk) (F+yQ d hi F rk)) else d:=by
 rw[Sort.siftDown,dif_neg h];unfold yQ;by_cases h1:2*rk+1+1<hi/\ltInt d[F+(2*rk+1)]! d[F+(2*rk+1)+1]! =true
 . rw[zP h1,zP (by simp[h1])]
   by_cases h2:ltInt d[F+rk]! d[F+(2*rk+2)]! =true
   . rw[zP h2,zN (by simp[h2]),dif_pos (by omega)]
   rw[zN h2,zP (by simpa using h2)]
 rw[zN h1,zN (by simpa using h1)]
 by_cases h2:ltInt d[F+rk]! d[F+(2*rk+1)]! =true
 . rw[zP h2,zN (by simp[h2])]
 rw[zN h2,zP (by simpa using h2)]
theorem sift_end (d:Array Int) (hi F rk:Nat) (h:2*rk+1≥hi):Sort.siftDown ltInt hi F rk d=d:=by rw[Sort.siftDown,dif_pos h]
theorem zcq (blk n cap lo hi F:Nat) (r:List Value) (d:Array Int) (w:World) (hR:dQ w blk d r) (hn:d.size=n) (hb:F+hi<=n) (Qc:n<1000000000) (NM:lo<1000000000):
 Calls Tryz.prog 144 #[.slice (some ⟨blk,0,none⟩) n cap,.int .i64 lo,.int .i64 hi,.int .i64 F] w λe w'=>e=.returned (.tuple #[])/\iK blk n r w (Sort.siftDown ltInt hi F lo d) w':=by
 have HR:=zh hR;have HN:=zh hn;clear hR hn;go_enter Tryz.func144,Tryz.ntmps144;go_wp2;go_loopw [8,9] (λrt _ wr=>∃ (rk:Nat) (dk:Array Int),rt=.int .i64 rk/\(rk=lo\/rk<hi)/\iK blk n r w dk wr/\Sort.siftDown ltInt hi F rk dk=Sort.siftDown ltInt hi F lo d) (λrt _ _=>(hi+1000000000)-(RowKit.intOf rt).toNat)
 case atStart=>exact⟨lo,d,rfl,.inl rfl,iK.refl HR.o HN.o,rfl⟩
 case round=>
  obtain⟨rk,dk,rfl,PE,hS,hE⟩:=hrel;have HE:=zh hE;have HS:=zh hS;have UW:(rk:Int)<1000000000:=by omega
  clear hS hE PE;obtain⟨c,hc⟩:=zE (2*rk+1);have hcz:2*(rk:Int)+1=(c:Int):=by omega
  have uh:IntKind.i64.wrap (2*(rk:Int))=2*(rk:Int):=zIn _ (by omega);have HC:=zh hc;by_cases kq:hi<=c
  . have hz:(hi:Int)<=(c:Int):=by omega
    clear hc;go_wp2;go_end0;exact⟨rfl,by rw[<-HE.o,sift_end dk hi F rk (by have:=HC.o;omega)];exact HS.o⟩
  have hz:¬ (hi:Int)<=(c:Int):=by omega
  have Kx:decide ((hi:Int)<=(c:Int))=false:=by simp;omega
  obtain⟨ch,ly⟩:=zE (yQ dk hi F rk);have Co:=sift_step dk hi F rk (by omega);rw[<-ly] at Co;have Ag:=zh Co;obtain⟨fr,YN⟩:=zE (F+rk);obtain⟨fch,Gb⟩:=zE (F+ch);obtain⟨fc,C4⟩:=zE (F+c);have F6:ch<hi/\rk<ch:=by
   rw[ly];unfold yQ;split<;>omega
  have Zc:(ch:Int)<hi:=by omega
  have Zj:(fr:Int)<n:=by omega
  have Zg:(fc:Int)<n:=by omega
  have Sw:(fch:Int)<n:=by omega
  have c2:=HS.o.2.1.cell fc (by have:=HS.o.1;omega);have Xe:IntKind.i64.wrap ((F:Int)+(c:Int))=(fc:Int):=by rw[zIn _ (by omega)];omega
  have QO:IntKind.i64.wrap ((F:Int)+(rk:Int))=(fr:Int):=by rw[zIn _ (by omega)];omega
  have xk:zH (IntKind.i64.wrap ((F:Int)+(ch:Int))=(fch:Int)):=zh (by rw[zIn _ (by omega)];omega);have Px:fch≠fr:=by omega
  have h3:(decide ((c:Int)+1<(hi:Int))=false/\ch=c)\/((c:Int)+1<(hi:Int)/\ltInt dk[fc]! dk[fc+1]! =false/\ch=c)\/((c:Int)+1<(hi:Int)/\ltInt dk[fc]! dk[fc+1]! =true/\ch=c+1):=by
   rw[ly,C4,hc];unfold yQ;by_cases g1:2*rk+1+1<hi
   . cases g2:ltInt dk[F+(2*rk+1)]! dk[F+(2*rk+1)+1]! with
     | false=>exact .inr (.inl ⟨by omega,rfl,by rw[zN (by simp)]⟩)
     | true=>exact .inr (.inr ⟨by omega,rfl,by rw[zP ⟨g1,rfl⟩]⟩)
   exact .inl ⟨by simp;omega,by rw[zN (by omega)]⟩
  have D1:=zh (zAi YN Gb);have r7:=zh F6;have O5:=zW c (by omega);have VI:(c:Int)<n:=by omega
  clear ly Co YN Gb F6 hc
  rcases h3 with⟨g,g3⟩|⟨g1,g2,g3⟩|⟨g1,g2,g3⟩
  rotate_left
  focus
   subst g3;have c3:=HS.o.2.1.cell (fc+1) (by have:=HS.o.1;omega);have bh:IntKind.i64.wrap ((fc:Int)+1)=((fc+1:Nat):Int):=by rw[zIn _ (by omega)];omega
   have dq:((fc+1:Nat):Int)<n:=by omega
   clear C4;generalize fc+1=fc1 at*;go_wp2;go_quiet ((go_at_call 94;exact Calls.quiet_of_same (eM _ _ _)));have Qs:=zh (HS.o.drewN nq);clear c2 c3 g1 g2 bh dq VI;generalize wr.drewN nq=w2 at Qs ⊢;go_wp2
  rotate_left
  focus
   subst g3;have c3:=HS.o.2.1.cell (fc+1) (by have:=HS.o.1;omega);have bh:IntKind.i64.wrap ((fc:Int)+1)=((fc+1:Nat):Int):=by rw[zIn _ (by omega)];omega
   have dq:((fc+1:Nat):Int)<n:=by omega
   clear C4;generalize fc+1=fc1 at*;go_wp2;go_quiet ((go_at_call 94;exact Calls.quiet_of_same (eM _ _ _)));have Qs:=zh (HS.o.drewN nq);clear c2 c3 g1 g2 bh dq VI;generalize wr.drewN nq=w2 at Qs ⊢;have XA:(c:Int)+1=((c+1:Nat):Int):=by omega
   generalize c+1=ch at*;go_wp2
  rotate_left
  focus
   subst g3;clear C4;go_wp2;go_quiet (fail);have Qs:=zh (HS.o.drewN nq);clear c2 g VI;generalize wr.drewN nq=w2 at Qs ⊢;go_wp2
  all_goals
   clear Xe;have YG:=xk.o;have c0:=Qs.o.2.1.cell fr (by have:=Qs.o.1;omega);have c1:=Qs.o.2.1.cell fch (by have:=Qs.o.1;omega);have QT:=Qs.o.2.1.free fr;have YM:=Qs.o.2.1.free fch;cases hl:ltInt dk[fr]! dk[fch]! with
   | true=>
    go_quiet ((go_at_call 94;exact Calls.quiet_of_same (eM _ _ _)));go_wp2
    go_region
    all_goals go_wp2
    all_goals go_roundw
    case rel=>exact⟨_,swp dk fr fch,rfl,.inr r7.o.1,(Qs.o.drewN _).swap fr fch (by omega) (by omega),by rw[<-HE.o,Ag.o,zP (by rw[<-D1.o.1,<-D1.o.2];exact hl),<-D1.o.1,<-D1.o.2]⟩
    case measure=>simp[RowKit.intOf];have:=r7.o;omega
   | false=>
    go_quiet ((go_at_call 94;exact Calls.quiet_of_same (eM _ _ _)));go_wp2;refine bodyPost_ret (v:=.tuple #[]) (by simp[results,Tryz.results144,go_sem]) rfl ?_;exact⟨rfl,by rw[<-HE.o,Ag.o,zN (by rw[<-D1.o.1,<-D1.o.2,hl];simp)];exact Qs.o.drewN _⟩
end
section
open Go.RowKit Go.Lib
open Go.Sort (swp ltInt)
theorem zah (F k:Nat) (d:Array Int):Sort.heapPop ltInt F (k+1) d=Sort.heapPop ltInt F k (Sort.siftDown ltInt k F 0 (swp d F (F+k))):=rfl
theorem zbj (hi F k:Nat) (d:Array Int):Sort.heapBuild ltInt hi F (k+1) d=Sort.heapBuild ltInt hi F k (Sort.siftDown ltInt hi F k d):=rfl
def Down (k:Nat) (i:Value):Prop:=(k=0/\i=.int .i64 (-1))\/∃ j:Nat,k=j+1/\i=.int .i64 j
theorem Down.next (k:Nat):Down k (.int .i64 ((k:Int)-1)):=by
 cases k with
 | zero=>exact .inl ⟨rfl,rfl⟩
 | succ j=>exact .inr ⟨j,rfl,by congr 1;omega⟩
theorem zcW (blk n cap a b:Nat) (r:List Value) (d:Array Int) (w:World) (hR:dQ w blk d r) (hn:d.size=n) (Xz:a<b) (hb:b<=n) (Qc:n<1000000000):
 Calls Tryz.prog 116 #[.slice (some ⟨blk,0,none⟩) n cap,.int .i64 a,.int .i64 b] w λe w'=>e=.returned (.tuple #[])/\iK blk n r w (Sort.heapSort ltInt d a b) w':=by
 have HR:=zh hR;have HN:=zh hn;have FL:(a:Int)<b:=by omega
 obtain⟨m,hm⟩:∃ m,b=a+m:=⟨b-a,by omega⟩;obtain⟨K0,MB⟩:=zE ((m-1) / 2);have hd:Sort.heapSort ltInt d a b=Sort.heapPop ltInt a m (Sort.heapBuild ltInt m a (K0+1) d):=by
  unfold Sort.heapSort;rw[hm,Nat.add_sub_cancel_left,MB]
 rw[hd];have Xe:IntKind.i64.wrap ((b:Int)-(a:Int))=(m:Int):=by rw[zIn _ (by omega)];omega
 have ZK:(b:Int)-(a:Int)=(m:Int):=by omega
 have LO:zH (((m:Int)-1) / 2=(K0:Int)):=zh (by omega);have NO:a+m<=n:=by omega
 have Fw:K0<m:=by omega
 have HM:=zh (zAi hm MB);clear hR hn hd hm MB;go_enter Tryz.func116,Tryz.ntmps116;go_wp2;go_loopw [9] (λi wr=>∃ (k:Nat) (dk:Array Int),k<=m/\Down k i/\iK blk n r w dk wr/\Sort.heapBuild ltInt m a k dk=Sort.heapBuild ltInt m a (K0+1) d) (λi _=>(RowKit.intOf i+1).toNat)
 case atStart=>exact⟨K0+1,d,by omega,.inr ⟨K0,rfl,by rw[LO.o]⟩,iK.refl HR.o HN.o,rfl⟩
 case round=>
  obtain⟨k,dk,UI,hD,hS,hE⟩:=hrel;have HE:=zh hE;have HS:=zh hS;clear hS hE
  rcases hD with⟨rfl,rfl⟩|⟨j,rfl,rfl⟩
  . obtain⟨wo,Ij⟩:∃ wo:World,wo=wr:=⟨_,rfl⟩
    clear Ij;clear wo;go_wp2;go_loopw [10] (λi wr=>∃ (k:Nat) (dl:Array Int),k<=m/\Down k i/\iK blk n r w dl wr/\Sort.heapPop ltInt a k dl=Sort.heapPop ltInt a m dk) (λi _=>(RowKit.intOf i+1).toNat)
    case atStart=>exact⟨m,dk,zR _,Down.next m,HS.o,rfl⟩
    case round=>
     obtain⟨k,dl,UI,hD,sq,RU⟩:=hrel;have LI:=zh RU;have XL:=zh sq;clear sq RU
     rcases hD with⟨rfl,rfl⟩|⟨j,rfl,rfl⟩
     . go_wp2
       go_end0;exact⟨rfl,by rw[<-HE.o];rw[show Sort.heapBuild ltInt m a 0 dk=dk from rfl,<-LI.o];exact XL.o⟩
     have SH:(0:Int)<=(j:Int):=by omega
     have SE:(j:Int)<(n:Int):=by omega
     have haz:(a:Int)<(n:Int):=by omega
     obtain⟨f,hf⟩:=zE (a+j);have QO:IntKind.i64.wrap ((a:Int)+(j:Int))=(f:Int):=by rw[zIn _ (by omega)];omega
     have UA:(f:Int)<(n:Int):=by omega
     have c0:=XL.o.2.1.cell a (by have:=XL.o.1;omega);have c1:=XL.o.2.1.cell f (by have:=XL.o.1;omega);have YM:=XL.o.2.1.free a;have QT:=XL.o.2.1.free f;by_cases Jn:j=0
     . have Ki:f=a:=by omega
       have HF:=zh hf;clear hf Jn;subst Ki;go_wp2
       go_region
       all_goals go_wp2_with (first|(go_at_call 144;refine (zcq blk n cap 0 j f r (swp dl f f) _ (by exact (((XL.o.drewN _).swap f f (by omega) (by omega)).2.1)) (by rw[Go.Sort.size_swp];exact XL.o.1) (by omega) Qc (by omega)).mono ?_;rintro e w' ⟨rfl,QD⟩))
       all_goals go_roundw
       case rel=>exact⟨j,_,by omega,Down.next j,((XL.o.drewN _).swap f f (by omega) (by omega)).trans QD,by rw[<-LI.o,zah,<-HF.o]⟩
       case measure=>(simp[zI]<;>omega)
     have Ki:a≠f:=by omega
     have Zf:f≠a:=by omega
     have HF:=zh hf;clear hf Jn;go_wp2
     go_region
     all_goals go_wp2_with (first|(go_at_call 144;refine (zcq blk n cap 0 j a r (swp dl a f) _ (by exact (((XL.o.drewN _).swap a f (by omega) (by omega)).2.1)) (by rw[Go.Sort.size_swp];exact XL.o.1) (by omega) Qc (by omega)).mono ?_;rintro e w' ⟨rfl,QD⟩))
     all_goals go_roundw
     case rel=>exact⟨j,_,by omega,Down.next j,((XL.o.drewN _).swap a f (by omega) (by omega)).trans QD,by rw[<-LI.o,zah,<-HF.o]⟩
     case measure=>(simp[zI]<;>omega)
  have SH:(0:Int)<=(j:Int):=by omega
  have SE:(j:Int)<(n:Int):=by omega
  go_wp2_with (first|(go_at_call 144;refine (zcq blk n cap j m a r dk _ (by exact HS.o.2.1) HS.o.1 (by omega) Qc (by omega)).mono ?_;rintro e w' ⟨rfl,QD⟩));go_roundw
  case rel=>exact⟨j,_,by omega,Down.next j,HS.o.trans QD,by rw[<-HE.o,zbj]⟩
  case measure=>(simp[zI]<;>omega)
theorem zee (blk n cap a b:Nat) (r:List Value) (d:Array Int) (w:World) (hR:dQ w blk d r) (hn:d.size=n) (Xz:a<b) (hb:b<=n) (Qc:n<1000000000):
 Calls Tryz.prog 119 #[.slice (some ⟨blk,0,none⟩) n cap,.int .i64 a,.int .i64 b] w λe w'=>e=.returned (.tuple #[])/\∃ d',Sort.PermIn a b d d'/\iK blk n r w d' w':=by
 have HR:=zh hR;have HN:=zh hn;clear hR hn;go_enter Tryz.func119,Tryz.ntmps119;go_wp2;go_loopw [6,7] (λi j wr=>∃ (k l:Nat) (dk:Array Int),i=.int .i64 k/\j=.int .i64 l/\a<=k/\l<b/\k<=b/\iK blk n r w dk wr/\Sort.PermIn a b d dk) (λi j _=>(RowKit.intOf j+b-RowKit.intOf i).toNat)
 case atStart=>exact⟨a,b-1,d,rfl,by congr 1;omega,zR _,by omega,by omega,iK.refl HR.o HN.o,Go.Sort.permIn_refl _ _ _⟩
 case round=>
  obtain⟨k,l,dk,rfl,rfl,hk,hl,Gx,hS,hP⟩:=hrel;have HP:=zh hP;have HS:=zh hS;have yb:=HN.o;clear hS hP;by_cases Hf:k<l
  . have hz:(k:Int)<(l:Int):=by omega
    have P6:(k:Int)<(n:Int):=by omega
    have Ko:(l:Int)<(n:Int):=by omega
    have c0:=HS.o.2.1.cell k (by have:=HS.o.1;omega);have c1:=HS.o.2.1.cell l (by have:=HS.o.1;omega);have YM:=HS.o.2.1.free k;have QT:=HS.o.2.1.free l;clear yb;go_wp2
    go_region
    all_goals go_wp2
    all_goals go_roundw
    case rel=>exact⟨k+1,l-1,swp dk k l,by go_num,by congr 1;omega,by omega,by omega,by omega,(HS.o.drewN _).swap k l (by omega) (by omega),Go.Sort.permIn_trans _ _ _ _ _ HP.o (Go.Sort.swp_permIn dk a b k l hk (by omega) (by omega) hl (by have:=HS.o.1;omega))⟩
    case measure=>(simp[zI]<;>omega)
  have hz:¬ (k:Int)<(l:Int):=by omega
  go_wp2;go_end0;exact⟨rfl,dk,HP.o,HS.o⟩
