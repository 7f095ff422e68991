/- Part of a proof. No condition. -/
import Derived.Sort.LotD7
import Derived.Sort.AssemblyPlain
import Derived.Test.YtmfnmkccbldfpaaGreatDoorS00
set_option linter.unusedVariables false
set_option linter.unusedSimpArgs false
set_option maxRecDepth 100000
set_option maxHeartbeats 4000000
namespace Go.Proofs.YtmfnmkccbldfpaaGreatDoor
theorem zzC2 {p:Prop} (h:p:=by have:=VD.o.1;omega):p:=h
theorem zzCA {p:Prop} (h:p:=by
 go_wp2;go_ret;exact⟨rfl,rfl⟩):p:=h
theorem zzAS {p:Prop} (h:p:=by have:=HS.o.1;omega):p:=h
variable {w:ω} {b n:Nat} {d:Array Int} {r:ζ}
section
open Go.RowKit Go.Lib Tryz
open Go.Sort (swp ltInt)
def eP (w:ω) (b:Nat) (d:Array Int) (rest:ζ):Prop:=
 w.h b (d.toList.map (Value.int .i32)++rest).toArray 21
theorem eP.lt (h:eP w b d r):b<w.t:=aA h
theorem eP.cell (h:eP w b d r) (k:Nat) (hk:k<d.size):w.v b k (.int .i32 d[k]!):=by
 rw[bF w b k _ _ _ h]
 grind [zGl]
theorem eP.free (h:eP w b d r) (k:Nat):w.q b k:=bN w b k _ _ h
theorem eP.set (h:eP w b d r) (k:Nat) (hk:k<d.size) (x:Int):eP (ς w (b.p k) (ξ x)) b (d.setIfInBounds k x) r:=by
 unfold eP at h ⊢;rw[aB w b k _ _ _ _ h];simp_all
theorem eP.swap (h:eP w b d r) (i j:Nat) (hi:i<d.size) (hj:j<d.size):
 eP (ς (ς w (b.p i) (.int .i32 d[j]!)) (b.p j) (.int .i32 d[i]!)) b (swp d i j) r:=
 (h.set i hi _).set j zg _
theorem zes (x y:Int) (w:ω):Γ 126 #[ξ x,ξ y] w λe w'=>e=ρ (φ (ltInt x y))/\w=w':=by
 unfold ltInt;have hn:∀ (x:Int) (w:ω),Γ 146 #[ξ x] w λe w'=>e=ρ (φ false)/\w=w':=by
  intro x w;go_in;exact zzCA
 go_in;go_wp2_with (go_at_call 146;refine (hn _ _).mono ?_;rintro e w' ⟨rfl,rfl⟩);go_ret;simp
theorem fM (x y:Int) (w:ω):Γ 126 #[ξ x,ξ y] w λe w'=>e=ρ (φ (ltInt x y))/\w'=w:=
 (zes x y w).mono λ_ _ h=>⟨h.1,h.2.symm⟩
def jW (b n:Nat) (r:ζ) (w:ω) (d:Array Int) (w':ω):Prop:=d.size=n/\eP w' b d r/\w.g w' b
theorem jW.refl (h:eP w b d r) (hn:d.size=n):jW b n r w d w:=⟨hn,h,eN _ _⟩
theorem jN (w:ω) (b i j:Nat) (u v:Value):w.grownBy (ς (ς w (b.p i) u) (b.p j) v) (some b):=
 ⟨rfl,rfl,rfl,zs,λk _ hr=>by
  grind [aD]⟩
theorem jW.swap {wr:ω} (h:jW b n r w d wr) (i j:Nat) (hi:i<n) (hj:j<n):
 jW b n r w (swp d i j) (ς (ς wr (b.p i) (.int .i32 d[j]!)) (b.p j) (.int .i32 d[i]!)):=
 ⟨by rw[Go.Sort.size_swp];exact h.1,h.2.1.swap i j (by have:=h.1;omega) (by have:=h.1;omega),aC h.2.2 (jN _ _ _ _ _ _)⟩
theorem jW.drewN {wr:ω} (h:jW b n r w d wr) (k:Nat):jW b n r w d (wr.drewN k):=⟨h.1,h.2.1,⟨h.2.2.os,h.2.2.tape,h.2.2.output,h.2.2.size,h.2.2.block⟩⟩
theorem jW.trans {w1 w2:ω} {d':Array Int} (h:jW b n r w d w1) (k:jW b n r w1 d' w2):jW b n r w d' w2:=⟨k.1,k.2.1,aC h.2.2 k.2.2⟩
theorem zaM (a b i:Nat) (d:Array Int) (h:i<b):Sort.insOuter ltInt a b i d=Sort.insOuter ltInt a b (i+1) (Sort.insInner ltInt a i d):=by rw[Sort.insOuter,zP h]
theorem zfu (a b i:Nat) (d:Array Int) (h:¬ i<b):Sort.insOuter ltInt a b i d=d:=by rw[Sort.insOuter,zN h]
theorem zgA (a j:Nat) (d:Array Int) (h:a<j+1) (h2:ltInt d[j+1]! d[j]! =true):Sort.insInner ltInt a (j+1) d=Sort.insInner ltInt a j (swp d (j+1) j):=by
 grind [Sort.insInner]
theorem zaL (a j:Nat) (d:Array Int) (h:¬ a<j+1\/ltInt d[j+1]! d[j]! =false):Sort.insInner ltInt a (j+1) d=d:=by
 grind [Sort.insInner]
theorem zej (blk n cap a b:Nat) (r:ζ) (d:Array Int) (w:ω) (hR:eP w blk d r) (hn:d.size=n) (KJ:a<=b) (hb:b<=n) (Hv:n<1000000000):
 Γ 132 #[σ blk n cap,ι a,ι b] w λe w'=>e=ρ (ϕ #[])/\jW blk n r w (Sort.insertionSort ltInt d a b) w':=by
 unfold Sort.insertionSort;go_in;go_wp2;go_loopw [6,7] (λi _ wr=>∃ (k:Nat) (dk:Array Int),i=ι k/\a+1<=k/\k<=b+1/\jW blk n r w dk wr/\Sort.insOuter ltInt a b k dk=Sort.insOuter ltInt a b (a+1) d) (λi _ _=>(b+1)-(ϑ i).toNat)
 case atStart=>exact⟨a+1,d,by go_num,zo,zo,jW.refl hR hn,rfl⟩
 case round=>
  obtain⟨k,dk,rfl,Yr,QF,hS,hE⟩:=hrel;by_cases Hf:k<b
  . have hz:=zt k b
    obtain⟨wo,rfl⟩:∃ wo:ω,wo=wr:=⟨_,rfl⟩;go_wp2;go_loopw [7] (λj wr=>∃ (jk:Nat) (dj:Array Int),j=ι jk/\jk<=k/\jW blk n r w dj wr/\Sort.insInner ltInt a jk dj=Sort.insInner ltInt a k dk) (λj _=>(ϑ j).toNat)
    case atStart=>exact⟨k,dk,rfl,bR,hS,rfl⟩
    case round=>
     obtain⟨jk,dj,rfl,hj,Rb,Zb⟩:=hrel;by_cases Lp:a<jk
     . obtain⟨j,hjq⟩:∃ j,jk=j+1:=⟨jk-1,zo⟩
       have Kf:=zt a jk
       have Kq:decide ((a:Int)<(jk:Int))=true:=by simpa using Kf
       have:=Rb.2.1.cell jk (by have:=Rb.1;omega);have:=Rb.2.1.cell j (by have:=Rb.1;omega);have:IntKind.i64.wrap ((jk:Int)-1)=(j:Int):=by rw[lM];omega
       have:=Rb.2.1.free jk;have:=Rb.2.1.free j;have:=zt jk n
       have:=zt j n
       have:j≠jk:=zo
       have GP:j+1=jk:=zo
       have Qg:=zgA a j dj;have Hh:=zaL a j dj;rw[GP] at Qg Hh;clear hjq;cases hl:ltInt dj[jk]! dj[j]! with
       | true=>
        have QO:=zh (Qg zo hl);go_wp2;go_quiet ((go_at_call 126;exact Calls.quiet_of_same (fM _ _ _)));go_wp2
        go_region
        all_goals go_wp2
        all_goals go_roundw
        case rel=>
         have:=GP;refine⟨j,swp dj jk j,rfl,zo,(Rb.drewN _).swap jk j zo zo,by rw[<-QO.o,Zb]⟩
        case measure=>simp[RowKit.intOf];have:=GP;omega
       | false=>
        have QO:=zh (Hh (.inr hl));go_wp2;go_quiet ((go_at_call 126;exact Calls.quiet_of_same (fM _ _ _)));go_wp2;go_roundw
        case rel=>exact⟨k+1,dj,by go_num,zo,zo,Rb.drewN _,by rw[<-hE,zaM a b k dk Hf,<-Zb,QO.o]⟩
        case measure=>simp[RowKit.intOf];omega
     have Kq:decide ((a:Int)<(jk:Int))=false:=zx
     go_wp2;go_quiet (fail);go_wp2;go_roundw
     case rel=>exact⟨k+1,dj,by go_num,zo,zo,Rb.drewN _,by rw[<-hE,zaM a b k dk Hf,<-Zb];cases jk with|zero=>rfl|succ j=>rw[zaL a j dj (.inl zo)]⟩
     case measure=>simp[RowKit.intOf];omega
  have hz:=zn k b
  go_wp2;go_end0;exact⟨rfl,by rw[<-hE,zfu a b k dk Hf];exact hS⟩
end
section
open Go.RowKit Go.Lib Tryz
open Go.Sort (swp ltInt)
def zcV (d:Array Int) (hi F rk:Nat):Nat:=if 2*rk+1+1<hi/\ltInt d[F+(2*rk+1)]! d[F+(2*rk+1)+1]! =true then 2*rk+2 else 2*rk+1
theorem sift_step (d:Array Int) (hi F rk:Nat) (h:¬ 2*rk+1≥hi):
 Sort.siftDown ltInt hi F rk d=if ltInt d[F+rk]! d[F+zcV d hi F rk]! =true then Sort.siftDown ltInt hi F (zcV d hi F rk) (swp d (F+rk) (F+zcV d hi F rk)) else d:=by
 rw[Sort.siftDown,dif_neg h]
 grind [zcV]
theorem sift_end (d:Array Int) (hi F rk:Nat) (h:2*rk+1≥hi):Sort.siftDown ltInt hi F rk d=d:=by rw[Sort.siftDown,dif_pos h]
theorem zeJ (blk n cap lo hi F:Nat) (r:ζ) (d:Array Int) (w:ω) (hR:eP w blk d r) (hn:d.size=n) (hb:F+hi<=n) (Hv:n<1000000000) (VO:lo<1000000000):
 Γ 151 #[σ blk n cap,ι lo,ι hi,ι F] w λe w'=>e=ρ (ϕ #[])/\jW blk n r w (Sort.siftDown ltInt hi F lo d) w':=by
 have HR:=zh hR;have HN:=zh hn;clear hR hn;go_in;go_wp2;go_loopw [8,9] (λrt _ wr=>∃ (rk:Nat) (dk:Array Int),rt=ι rk/\(rk=lo\/rk<hi)/\jW blk n r w dk wr/\Sort.siftDown ltInt hi F rk dk=Sort.siftDown ltInt hi F lo d) (λrt _ _=>(hi+1000000000)-(ϑ rt).toNat)
 case atStart=>exact⟨lo,d,rfl,.inl rfl,jW.refl HR.o HN.o,rfl⟩
 case round=>
  obtain⟨rk,dk,rfl,AD,hS,hE⟩:=hrel;have HE:=zh hE;have HS:=zh hS;have:(rk:Int)<1000000000:=zo
  clear hS hE AD;obtain⟨c,hc⟩:=zE (2*rk+1);have:2*(rk:Int)+1=(c:Int):=zo
  have:=lM (n:=2*(rk:Int));have:=zh hc;by_cases Y4:hi<=c
  . have hz:=zu hi c
    clear hc;go_wp2;go_end0;exact⟨rfl,by rw[<-HE.o,sift_end dk hi F rk zo];exact HS.o⟩
  have hz:¬ (hi:Int)<=(c:Int):=zo
  have:decide ((hi:Int)<=(c:Int))=false:=zx
  obtain⟨ch,Gx⟩:=zE (zcV dk hi F rk);have QI:=sift_step dk hi F rk zo;rw[<-Gx] at QI;have bz:=zh QI;obtain⟨fr,xv⟩:=zE (F+rk);obtain⟨fch,od⟩:=zE (F+ch);obtain⟨fc,Bp⟩:=zE (F+c);have MU:ch<hi/\rk<ch:=by
   rw[Gx];unfold zcV;split<;>omega
  have:(ch:Int)<hi:=zo
  have:(fr:Int)<n:=zo
  have:(fc:Int)<n:=zo
  have:(fch:Int)<n:=zo
  have c2:=HS.o.2.1.cell fc zzAS;have yw:IntKind.i64.wrap ((F:Int)+(c:Int))=(fc:Int):=by rw[lM];omega
  have:IntKind.i64.wrap ((F:Int)+(rk:Int))=(fr:Int):=by rw[lM];omega
  have Y0:zH (IntKind.i64.wrap ((F:Int)+(ch:Int))=(fch:Int)):=zh (by grind [zIn]);have:fch≠fr:=zo
  have h3:(decide ((c:Int)+1<(hi:Int))=false/\ch=c)\/((c:Int)+1<(hi:Int)/\ltInt dk[fc]! dk[fc+1]! =false/\ch=c)\/((c:Int)+1<(hi:Int)/\ltInt dk[fc]! dk[fc+1]! =true/\ch=c+1):=by
   rw[Gx,Bp,hc];unfold zcV;by_cases g1:2*rk+1+1<hi
   . grind
   grind
  have IA:=Θ xv od;have HCB:=zh MU;have:=mF c;have Vo:(c:Int)<n:=zo
  clear Gx QI xv od MU hc
  rcases h3 with⟨g,g3⟩|⟨g1,g2,g3⟩|⟨g1,g2,g3⟩
  rotate_left
  focus
   subst g3;have c3:=HS.o.2.1.cell (fc+1) zzAS;have SV:IntKind.i64.wrap ((fc:Int)+1)=((fc+1:Nat):Int):=by rw[lM];omega
   have GC:((fc+1:Nat):Int)<n:=zo
   clear Bp;generalize fc+1=fc1 at*;go_wp2;go_quiet ((go_at_call 126;exact Calls.quiet_of_same (fM _ _ _)));have QS:=zh (HS.o.drewN nq);clear c2 c3 g1 g2 SV GC Vo;generalize wr.drewN nq=w2 at QS ⊢;go_wp2
  rotate_left
  focus
   subst g3;have c3:=HS.o.2.1.cell (fc+1) zzAS;have SV:IntKind.i64.wrap ((fc:Int)+1)=((fc+1:Nat):Int):=by rw[lM];omega
   have GC:((fc+1:Nat):Int)<n:=zo
   clear Bp;generalize fc+1=fc1 at*;go_wp2;go_quiet ((go_at_call 126;exact Calls.quiet_of_same (fM _ _ _)));have QS:=zh (HS.o.drewN nq);clear c2 c3 g1 g2 SV GC Vo;generalize wr.drewN nq=w2 at QS ⊢;have:(c:Int)+1=((c+1:Nat):Int):=zo
   generalize c+1=ch at*;go_wp2
  rotate_left
  focus
   subst g3;clear Bp;go_wp2;go_quiet (fail);have QS:=zh (HS.o.drewN nq);clear c2 g Vo;generalize wr.drewN nq=w2 at QS ⊢;go_wp2
  all_goals
   clear yw;have:=Y0.o;have:=QS.o.2.1.cell fr (by have:=QS.o.1;omega);have:=QS.o.2.1.cell fch (by have:=QS.o.1;omega);have:=QS.o.2.1.free fr;have:=QS.o.2.1.free fch;cases hl:ltInt dk[fr]! dk[fch]! with
   | true=>
    go_quiet ((go_at_call 126;exact Calls.quiet_of_same (fM _ _ _)));go_wp2
    go_region
    all_goals go_wp2
    all_goals go_roundw
    case rel=>exact⟨_,swp dk fr fch,rfl,.inr HCB.o.1,(QS.o.drewN _).swap fr fch zo zo,by rw[<-HE.o,bz.o,zP (by rw[<-IA.o.1,<-IA.o.2];exact hl),<-IA.o.1,<-IA.o.2]⟩
    case measure=>simp[RowKit.intOf];omega
   | false=>
    go_quiet ((go_at_call 126;exact Calls.quiet_of_same (fM _ _ _)));go_wp2;refine bodyPost_ret (v:=ϕ #[]) (by simp[results,results151,go_sem]) rfl ?_;exact⟨rfl,by rw[<-HE.o,bz.o,zN (by rw[<-IA.o.1,<-IA.o.2,hl];simp)];exact QS.o.drewN _⟩
end
section
open Go.RowKit Go.Lib Tryz
open Go.Sort (swp ltInt)
theorem zbF (F k:Nat) (d:Array Int):Sort.heapPop ltInt F (k+1) d=Sort.heapPop ltInt F k (Sort.siftDown ltInt k F 0 (swp d F (F+k))):=rfl
def Down (k:Nat) (i:Value):Prop:=(k=0/\i=ι (-1))\/∃ j:Nat,k=j+1/\i=ι j
theorem Down.next (k:Nat):Down k (ι ((k:Int)-1)):=by
 cases k with
 | zero=>exact .inl ⟨rfl,rfl⟩
 | succ j=>exact .inr ⟨j,rfl,zs⟩
theorem zfo (blk n cap a b:Nat) (r:ζ) (d:Array Int) (w:ω) (hR:eP w blk d r) (hn:d.size=n) (KJ:a<b) (hb:b<=n) (Hv:n<1000000000):
 Γ 133 #[σ blk n cap,ι a,ι b] w λe w'=>e=ρ (ϕ #[])/\jW blk n r w (Sort.heapSort ltInt d a b) w':=by
 have HR:=zh hR;have HN:=zh hn;have:(a:Int)<b:=zo
 obtain⟨m,hm⟩:∃ m,b=a+m:=⟨b-a,zo⟩;obtain⟨K0,Zh⟩:=zE ((m-1) / 2);have hd:Sort.heapSort ltInt d a b=Sort.heapPop ltInt a m (Sort.heapBuild ltInt m a (K0+1) d):=by
  unfold Sort.heapSort;rw[hm,Nat.add_sub_cancel_left,Zh]
 rw[hd];have:IntKind.i64.wrap ((b:Int)-(a:Int))=(m:Int):=by rw[lM];omega
 have:(b:Int)-(a:Int)=(m:Int):=zo
 have wY:zH (((m:Int)-1) / 2=(K0:Int)):=zh zo;have:a+m<=n:=zo
 have:K0<m:=zo
 have:=Θ hm Zh;clear hR hn hd hm Zh;go_in;go_wp2;go_loopw [9] (λi wr=>∃ (k:Nat) (dk:Array Int),k<=m/\Down k i/\jW blk n r w dk wr/\Sort.heapBuild ltInt m a k dk=Sort.heapBuild ltInt m a (K0+1) d) (λi _=>(ϑ i+1).toNat)
 case atStart=>exact⟨K0+1,d,zo,.inr ⟨K0,rfl,by rw[wY.o]⟩,jW.refl HR.o HN.o,rfl⟩
 case round=>
  obtain⟨k,dk,pg,hD,hS,hE⟩:=hrel;have HE:=zh hE;have HS:=zh hS;clear hS hE
  rcases hD with⟨rfl,rfl⟩|⟨j,rfl,rfl⟩
  . obtain⟨wo,RG⟩:∃ wo:ω,wo=wr:=⟨_,rfl⟩
    clear RG;clear wo;go_wp2;go_loopw [10] (λi wr=>∃ (k:Nat) (dl:Array Int),k<=m/\Down k i/\jW blk n r w dl wr/\Sort.heapPop ltInt a k dl=Sort.heapPop ltInt a m dk) (λi _=>(ϑ i+1).toNat)
    case atStart=>exact⟨m,dk,bR,Down.next m,HS.o,rfl⟩
    case round=>
     obtain⟨k,dl,pg,hD,hSl,hEl⟩:=hrel;have wO:=zh hEl;have VD:=zh hSl;clear hSl hEl
     rcases hD with⟨rfl,rfl⟩|⟨j,rfl,rfl⟩
     . go_wp2
       go_end0;exact⟨rfl,by rw[<-HE.o];rw[show Sort.heapBuild ltInt m a 0 dk=dk from rfl,<-wO.o];exact VD.o⟩
     have hjz:(0:Int)<=(j:Int):=zo
     have hjm:=zt j n
     have:=zt a n
     obtain⟨f,hf⟩:=zE (a+j);have:IntKind.i64.wrap ((a:Int)+(j:Int))=(f:Int):=by rw[lM];omega
     have:=zt f n
     have:=VD.o.2.1.cell a zzC2;have:=VD.o.2.1.cell f zzC2;have:=VD.o.2.1.free a;have:=VD.o.2.1.free f;by_cases CR:j=0
     . have JB:f=a:=zo
       have HF:=zh hf;clear hf CR;subst JB;go_wp2
       go_region
       all_goals go_wp2_with (first|(go_at_call 151;refine (zeJ blk n cap 0 j f r (swp dl f f) _ (by exact (((VD.o.drewN _).swap f f zo zo).2.1)) (by rw[Go.Sort.size_swp];exact VD.o.1) zo Hv zo).mono ?_;rintro e w' ⟨rfl,Q7⟩))
       all_goals go_roundw
       case rel=>exact⟨j,_,zo,Down.next j,((VD.o.drewN _).swap f f zo zo).trans Q7,by rw[<-wO.o,zbF,<-HF.o]⟩
       case measure=>exact zY
     have JB:a≠f:=zo
     have:f≠a:=zo
     have HF:=zh hf;clear hf CR;go_wp2
     go_region
     all_goals go_wp2_with (first|(go_at_call 151;refine (zeJ blk n cap 0 j a r (swp dl a f) _ (by exact (((VD.o.drewN _).swap a f zo zo).2.1)) (by rw[Go.Sort.size_swp];exact VD.o.1) zo Hv zo).mono ?_;rintro e w' ⟨rfl,Q7⟩))
     all_goals go_roundw
     case rel=>exact⟨j,_,zo,Down.next j,((VD.o.drewN _).swap a f zo zo).trans Q7,by rw[<-wO.o,zbF,<-HF.o]⟩
     case measure=>exact zY
  have hjz:(0:Int)<=(j:Int):=zo
  have hjm:=zt j n
  go_wp2_with (first|(go_at_call 151;refine (zeJ blk n cap j m a r dk _ (by exact HS.o.2.1) HS.o.1 zo Hv zo).mono ?_;rintro e w' ⟨rfl,Q7⟩));go_roundw
  case rel=>exact⟨j,_,zo,Down.next j,HS.o.trans Q7,by assumption⟩
  case measure=>exact zY
theorem zgV (blk n cap a b:Nat) (r:ζ) (d:Array Int) (w:ω) (hR:eP w blk d r) (hn:d.size=n) (KJ:a<b) (hb:b<=n) (Hv:n<1000000000):
 Γ 136 #[σ blk n cap,ι a,ι b] w λe w'=>e=ρ (ϕ #[])/\∃ d',Sort.PermIn a b d d'/\jW blk n r w d' w':=by
 have HR:=zh hR;have HN:=zh hn;clear hR hn;go_in;go_wp2;go_loopw [6,7] (λi j wr=>∃ (k l:Nat) (dk:Array Int),i=ι k/\j=ι l/\a<=k/\l<b/\k<=b/\jW blk n r w dk wr/\Sort.PermIn a b d dk) (λi j _=>(ϑ j+b-ϑ i).toNat)
 case atStart=>exact⟨a,b-1,d,rfl,zg,bR,zo,zo,jW.refl HR.o HN.o,Go.Sort.permIn_refl _ _ _⟩
 case round=>
  obtain⟨k,l,dk,rfl,rfl,hk,hl,Dt,hS,hP⟩:=hrel;have HP:=zh hP;have HS:=zh hS;have Q4:=HN.o;clear hS hP;by_cases Hf:k<l
  . have hz:=zt k l
    have:=zt k n
    have:=zt l n
    have:l≠k:=zo
    have:=HS.o.2.1.cell k zzAS;have:=HS.o.2.1.cell l zzAS;have:=HS.o.2.1.free k;have:=HS.o.2.1.free l;clear Q4;go_wp2
    go_region
    all_goals go_wp2
    all_goals go_roundw
    case rel=>exact⟨k+1,l-1,swp dk k l,by go_num,zg,zo,zo,zo,(HS.o.drewN _).swap k l zo zo,Go.Sort.permIn_trans _ _ _ _ _ HP.o (Go.Sort.swp_permIn dk a b k l hk zo zo hl zzAS)⟩
    case measure=>exact zY
  have hz:=zn k l
  go_wp2;go_end0;exact⟨rfl,dk,HP.o,HS.o⟩
