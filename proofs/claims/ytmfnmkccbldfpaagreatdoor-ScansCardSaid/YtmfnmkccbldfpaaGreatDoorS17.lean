/- Part of a proof. No condition. -/
import Derived.Deep.CutRange
import Derived.Test.YtmfnmkccbldfpaaGreatDoorS13
set_option linter.unusedVariables false
set_option linter.unusedSimpArgs false
set_option maxRecDepth 100000
set_option maxHeartbeats 4000000
namespace Go.Proofs.YtmfnmkccbldfpaaGreatDoor
open Go.RowKit Go.Lib Tryz
theorem zzDk {p:Prop} (h:p:=by
 refine⟨rfl,?_⟩;rw[<-QL.o];exact⟨rfl,aC kj.o (aH qu _)⟩):p:=h
theorem zzCj {p:Prop} (h:p:=by simp_all):p:=h
theorem zzCh {p:Prop} (h:p:=by
 generalize w3.drewN nq=w4 at*;go_wp2;go_meet
 case rel=>exact⟨_,_,tH.o,rfl,VE.o,zo,zo⟩):p:=h
theorem zzBD {p:Prop} (h:p:=by
 have HC:zH (R=.error e):=zh zg;have hP:=mZ bp s q _ e Qq hx;clear Hy hx;go_wp2_with (first|(go_at_call 118;refine hP.mono ?_;rintro e w1 ⟨rfl,Hk⟩));refine⟨rfl,?_⟩;rw[HC.o];exact⟨rfl,aC Qm (aH Hk _)⟩):p:=h
theorem zzBC {p q:Prop} (k:q) (h:q->p:=by intro zz;refine leaves_cons (f:=97) (args:=#[.pointer (some ⟨w.heap.size,0,none⟩),.pointer (some ⟨w.heap.size+1,0,none⟩)]) zs zr ?_;exact zz):p:=h k
theorem zzAK {p:Prop} (h:p:=by
 have HX:=zh Xu;clear Xu;go_wp2_with (first|(go_at_call 160;refine Q7.mono ?_;rintro e w6 ⟨rfl,Pk,Kn⟩;clear Q7;have QJ:=zh ((HT).o.next Pk Kn))|(rw[jH];go_upon)|(rw[jD];go_simp)|(go_at_call 158;refine (rG BF p _ (by exact bF _ BF 0 _ _ _ QJ.o.bf)).mono ?_;rintro e w7 ⟨rfl,rfl⟩))
 all_goals
  refine⟨rfl,?_⟩;rw[HX.o];exact⟨rfl,QJ.o.grown⟩):p:=h
variable {bp W BF p q:Nat} {s:η} {t:aL} {v:Value} {w wr:ω}
structure TM (bp:Nat) (s:η) (W:Nat) (t:aL) (v:Value) (BF p:Nat) (w:ω) (q:Nat) (wr:ω):Prop where
 ps:PS bp s q wr
 grown:w.g wr bp
 tree:aW (Fr W) wr t v
 bf:wr.h BF #[ι p] 3
 bw:bp<W
 ww:W<=w.t
 fb:w.t<=BF
theorem TM.below {w':ω} (h:TM bp s W t v BF p w q wr) (hb:wr.u w'):TM bp s W t v BF p w q w':=
 ⟨h.ps.below hb,aC h.grown (aH hb _),h.tree.below hb,zbg h.bf hb,h.bw,h.ww,h.fb⟩
theorem TM.next {q':Nat} {w':ω} (h:TM bp s W t v BF p w q wr) (hp:PS bp s q' w') (hg:wr.g w' bp):TM bp s W t v BF p w q' w':=
 ⟨hp,aC h.grown hg,h.tree.grown h.bw hg,nN h.bf hg (by have:=h.bw;have:=h.ww;have:=h.fb;omega),h.bw,h.ww,h.fb⟩
theorem TM.drewN (h:TM bp s W t v BF p w q wr) (n:Nat):TM bp s W t v BF p w q (wr.drewN n):=
 ⟨h.ps.drewN n,aM h.grown n,h.tree.below (lS (zBr _ wr) n),h.bf,h.bw,h.ww,h.fb⟩
def nH (s:η) (p q lo:Nat):Except mP (Int×Nat):=
 if uZ s q 44 then (if decide (q+1<s.size)&& !decide (bL s (q+1)=125) then (eV s (q+1) p).map (λx=>((x.1:Int),x.2)) else .ok (-1,q+1)) else .ok ((lo:Int),q)
theorem za9 (s:η) (p:Nat) (t:aL):nX s p t=
 match eV s (p+1) p with
 | .error e=>.error e
 | .ok (lo,q)=>
  match nH s p q lo with
  | .error e=>.error e
  | .ok (hi,q2)=>
   if uZ s q2 125=false\/8<lo\/8<hi\/(0<=hi/\hi<lo)\/cE t=0 then .error (4,p)
   else if hi<0 then
    if lo=0 then .ok (.rep t 0 false,q2+1) else .ok (.row (ψ (lo-1) t++[.rep t 1 false]),q2+1)
   else .ok (.row (ψ lo t++ψ (hi.toNat-lo) (.rep t 0 true)),q2+1):=rfl
theorem pl_call (t:aL) (x:Value) (S:Nat->Prop) (w:ω) (h:aW S w t (Δ (fU t) x)):Γ (plF t) #[x] w λr w'=>r=ρ (ι (cE t))/\w.u w':=by
 obtain⟨y,e,hc⟩:=kE t _ S w h;cases e;exact hc
theorem yB {k n:Nat} (h:eV s p k=.ok (n,q)):n<=99/\p<q/\q<=s.size:=by
 unfold eV at h;split at h
 . next h1=>
   have:=zgs h1;split at h
   . next h2=>
     have:=zgs h2
     grind
   grind
 grind
theorem times_any (bp:Nat) (s:η) (p W:Nat) (w:ω) (t:aL) (v:Value) (h:PS bp s p w) (Qd:p+1<=s.size) (hs:s.size<=60) (vz:bp<W) (hW:W<=w.t) (ht:aW (Fr W) w t v):
 Γ 147 #[π bp,v] w (Out bp s w (λt v w'=>aW (Fr W) w' t v) (nX s p t)):=by
 obtain⟨x,rfl,_⟩:=kE t v _ w ht;obtain⟨c0,c1,f1⟩:=h.cells;have Up:zH (TM bp s W t (Δ (fU t) x) w.t p w (p+1) (κ (ς w (bp.p 1) (ι ((p:Int)+1))) (Ω #[ι p] 3))):=by
  have hg:=bQ w bp 1 (ι ((p:Int)+1));have x8:(ς w (bp.p 1) (ι ((p:Int)+1))).heap.size=w.heap.size:=zs
  have hb:=(zBr _ (ς w (bp.p 1) (ι ((p:Int)+1)))).alloc bR (Ω #[ι p] 3);exact zh ⟨(h.inc Qd).below hb,aC hg (aH hb _),(ht.grown vz hg).below hb,by rw[aV,zP x8.symm],vz,hW,bR⟩
 have hHX:∀ e,eV s (p+1) p=.error e->nX s p t=.error e:=λe he=>by rw[za9,he]
 have HX:=zh hHX;have hHY:∀ lo q,eV s (p+1) p=.ok (lo,q)->nX s p t=match nH s p q lo with
  | .error e=>.error e
  | .ok (hi,q2)=>
   if uZ s q2 125=false\/8<lo\/8<hi\/(0<=hi/\hi<lo)\/cE t=0 then .error (4,p)
   else if hi<0 then
    if lo=0 then .ok (.rep t 0 false,q2+1) else .ok (.row (ψ (lo-1) t++[.rep t 1 false]),q2+1)
   else .ok (.row (ψ lo t++ψ (hi.toNat-lo) (.rep t 0 true)),q2+1):=λlo q he=>by rw[za9,he]
 have HY:=zh hHY;have:(p:Int)+1<=1000:=zo
 have Hf:=h.lt;clear h ht hHX hHY;go_in;go_wp2_with fail;clear c0 c1 f1;generalize (ς w (bp.p 1) (ι ((p:Int)+1))).alloc (Ω #[ι p] 3)=w1 at*;generalize hBF:w.heap.size=BF at*;cases hn:eV s (p+1) p with
 | error e=>
  refine (yC bp BF s (p+1) p w1 Up.o.ps (bF _ BF 0 _ _ _ Up.o.bf) zo).mono ?_;intro r w2 hr;rw[hn] at hr;obtain⟨rfl,qk⟩:=hr;refine⟨rfl,?_⟩;rw[HX.o e hn];exact⟨rfl,aC Up.o.grown qk⟩
 | ok loq=>
  obtain⟨lo,q⟩:=loq;refine (yC bp BF s (p+1) p w1 Up.o.ps (bF _ BF 0 _ _ _ Up.o.bf) zo).mono ?_;intro r w2 hr;rw[hn] at hr;obtain⟨v2,rfl,rfl,yf,qk⟩:=hr;have L8:=zh (Up.o.next yf qk);have Xu:=HY.o lo q hn;have HZ:=zh Xu;obtain⟨VO,VQ,VR⟩:=yB hn;clear Up yf qk Xu HX HY hn;have hS:=zeK bp s q 44 w2 L8.o.ps;go_upto_if 27 with (go_at_call 160;refine hS.mono ?_;rintro e w3 ⟨rfl,yo,ye⟩;clear hS)
  go_cut [8] from 10 (λs8 wr=>∃ (hi:Int) (q2:Nat),nH s p q lo=.ok (hi,q2)/\s8=ι hi/\TM bp s W t (Δ (fU t) x) BF p w q2 wr/\ -1<=hi/\hi<=99)
  case first=>
   cases PI:uZ s q 44 with
   | false=>
    have tH:nH s p q lo=.ok ((lo:Int),q):=by rw[nH,PI,zN zd]
    rw[PI] at yo;simp only[zN (show ¬ false=true from by decide)] at yo;have PF:=L8.o.next yo ye;go_wp2;go_meet
    grind
   | true=>
    rw[PI] at yo;simp only[zP] at yo;obtain⟨d0,d1,g1⟩:=yo.cells;have PF:=zh (L8.o.next yo ye);have:=yo.le;clear L8 yo ye;generalize AB:q+1=r at*;cases hg:decide (r<s.size)&& !decide (bL s r=125) with
    | false=>
     have tH:zH (nH s p q lo=.ok (-1,r)):=zh (by rw[nH,PI,zP rfl,AB,hg];rfl);by_cases Hf:r<s.size
     . have hz:=zt r s.size
       have hb:=fX s r Hf;have Ym:((bL s r:Int) != 125)=false:=by
        simp[Hf] at hg;simp[hg]
       clear hg;go_wp2;go_quiet (fail);have VE:=zh (PF.o.drewN nq);clear PF d0 d1 g1 Ym hb;exact zzCh
     . have hz:decide ((r:Int)<(s.size:Int))=false:=zx
       clear hg;go_wp2;go_quiet (fail);have VE:=zh (PF.o.drewN nq);clear PF d0 d1 g1;exact zzCh
    | true=>
     have qk:r<s.size/\¬ bL s r=125:=by simpa using hg
     have Hf:=qk.1;have hz:=zt r s.size
     have hb:=fX s r Hf;have Ym:((bL s r:Int) != 125)=true:=by have:=qk.2;simp;omega
     have hHE:nH s p q lo=(eV s r p).map (λx=>((x.1:Int),x.2)):=by rw[nH,PI,zP rfl,AB,hg];rfl
     have wW:=zh hHE;clear hg qk hHE;go_wp2;go_quiet (fail);have VE:=zh (PF.o.drewN nq);clear PF d0 d1 g1 Ym hb;generalize w3.drewN nq=w4 at*;go_wp2_with fail;cases XG:eV s r p with
     | error e=>
      refine (yC bp BF s r p _ VE.o.ps (bF _ BF 0 _ _ _ VE.o.bf) zo).mono ?_;intro r w5 hr;rw[XG] at hr;obtain⟨rfl,qk⟩:=hr;refine⟨rfl,?_⟩;rw[HZ.o,wW.o,XG];exact⟨rfl,aC VE.o.grown qk⟩
     | ok loq=>
      obtain⟨n,q2⟩:=loq;refine (yC bp BF s r p _ VE.o.ps (bF _ BF 0 _ _ _ VE.o.bf) zo).mono ?_;intro r w5 hr;rw[XG] at hr;obtain⟨v2,rfl,rfl,Ta,Jj⟩:=hr;have yl:=zh (VE.o.next Ta Jj);have:=(yB XG).1;have tH:zH (nH s p q lo=.ok ((n:Int),q2)):=zh (by rw[wW.o,XG];rfl);clear VE Ta Jj XG wW;go_wp2;go_meet
      case rel=>exact⟨_,_,tH.o,rfl,yl.o,zo,zo⟩
  case rest=>
   clear L8 yo ye;obtain⟨hi,q2,jq,rfl,yl,Ed,hhi9⟩:=hcut;have tH:=zh jq;have HT:=zh yl;clear jq yl;have Xu:=HZ.o;rw[tH.o] at Xu;simp only at Xu;clear HZ tH;have Q7:=zeK bp s q2 125 _ HT.o.ps;cases Ym:uZ s q2 125 with
   | false=>
    rw[Ym] at Q7;simp only[zN (show ¬ false=true from by decide)] at Q7;rw[zP (.inl Ym)] at Xu;exact zzAK
   | true=>
    rw[Ym] at Q7;simp only[zP] at Q7;by_cases b1:8<lo
    . rw[zP (.inr (.inl b1))] at Xu
      exact zzAK
    by_cases b2:(8:Int)<hi
    . rw[zP (.inr (.inr (.inl b2)))] at Xu
      exact zzAK
    by_cases b3:(0:Int)<=hi/\(hi:Int)<lo
    . rw[zP (.inr (.inr (.inr (.inl b3))))] at Xu
      obtain⟨b30,b31⟩:=b3;exact zzAK
    by_cases b4:cE t=0
    . rw[zP (.inr (.inr (.inr (.inr b4))))] at Xu
      have HX:=zh Xu;clear Xu;have qu:(cE t==0)=true:=by simp[b4]
      go_wp2_with (first|(go_at_call 160;refine Q7.mono ?_;rintro e w6 ⟨rfl,Pk,Kn⟩;clear Q7;have QJ:=zh (HT.o.next Pk Kn))|(rw[jH];go_upon)|(rw[jD];go_simp)|(go_at_call 158;refine (rG BF p _ (by exact bF _ BF 0 _ _ _ TF.o.bf)).mono ?_;rintro e w8 ⟨rfl,rfl⟩)|(refine (pl_call t x _ _ (by exact QJ.o.tree)).mono ?_;rintro e w7 ⟨rfl,yv⟩;have TF:=zh (QJ.o.below yv)))
      all_goals
       refine⟨rfl,?_⟩;rw[HX.o];exact⟨rfl,TF.o.grown⟩
    have qu:(cE t==0)=false:=by simp[b4]
    rw[zN zzCj] at Xu;have HX:=zh Xu;clear Xu Ym b4
    rcases Int.lt_or_le hi 0 with EO|EO
    all_goals go_wp2_with (first|(go_at_call 160;refine Q7.mono ?_;rintro e w6 ⟨rfl,Pk,Kn⟩;clear Q7;have QJ:=zh (HT.o.next Pk Kn))|(rw[jH];go_upon)|(rw[jD];go_simp)|(refine (pl_call t x _ _ (by exact QJ.o.tree)).mono ?_;rintro e w7 ⟨rfl,yv⟩;have TF:=zh (QJ.o.below yv)))
    all_goals
     have CF:=zh TF.o.ps;have N7:=zh TF.o.grown;have JU:=zh TF.o.tree;clear TF QJ HT yv Pk Kn;clear qu;go_loopw [9,81] (λo i wr=>∃ k:Nat,k<=lo/\i=ι k/\PS bp s (q2+1) wr/\w.g wr bp/\RK BF W (ψ k t) (ψ k (Δ (fU t) x)) o wr/\aW (λg=>W<=g/\β o≠some g) wr t (Δ (fU t) x)) (λ_ i _=>lo-(ϑ i).toNat)
     case atStart=>exact⟨0,zo,rfl,CF.o,N7.o,RK.nil _ _ _,JU.o.weak λg hg _=>⟨hg,by simp[Value.ownBlock]⟩⟩
     case round=>
      obtain⟨k,hk,rfl,Qq,Qm,AD,jt⟩:=hrel;have JS:=zh Qq;have Qw:=zh Qm;have PC:=zh AD;have CI:=zh jt;have Ho:I (ψ k t)=k:=List.length_replicate;by_cases Du:k<lo
      . have hkz:=zt k lo
        clear Qq Qm AD jt;go_wp2_with (at_builtin;refine dM rfl zeb rfl (by exact (PC.o.alloc _).row) [Value.iface (fU t) x] zo ?_;intro v' w' Q0 QQ Y3);have PO:=Ξ wr (Ω #[Value.iface (fU t) x] 165);have Cv:BF<=(κ wr (Ω #[Value.iface (fU t) x] 165)).t:=by have:=Qw.o.size;simp;omega
        obtain⟨n1,n2⟩:=(PC.o.alloc (Ω #[Value.iface (fU t) x] 165)).append Cv (CI.o.below PO) Q0 QQ Y3;have Nl:=(JS.o.below PO).apart QQ (λg hg=>by have:=PC.o.fresh g hg;omega);have Qp:=pP QQ (λg hg=>by have:=PC.o.fresh g hg;omega) zo (aC Qw.o (aH PO _));go_roundw
        case rel=>
         refine⟨k+1,zo,by go_num,Nl,Qp,?_,n2⟩;rw[List.replicate_succ',List.replicate_succ'];exact n1
        case measure=>simp[RowKit.intOf];omega
      have QF:k=lo:=zo
      subst QF;clear Qq Qm AD jt;have Xu:=HX.o;by_cases XH:hi<0
      . try (exfalso;omega)
        all_goals
         clear EO;rw[zP XH] at Xu;by_cases YQ:k=0
         . rw[zP YQ] at Xu
           have Jb:=zh Xu;clear Xu;have hkz:((k:Int)==0)=true:=by simp[YQ]
           go_wp2;go_ret;rw[Jb.o];exact⟨Δ 246 (.agg #[Δ (fU t) x,ι 0,φ false]),rfl,pX 0 false CI.o.notIn,JS.o,Qw.o⟩
         rw[zN YQ] at Xu
         have Jb:=zh Xu;clear Xu;have hkz:((k:Int)==0)=false:=by simp[YQ]
         have Vf:=PC.o.row;rw[Ho] at Vf;have yn:=aY Vf
         rcases yn with⟨_,h⟩|⟨g,cap,rfl,Xi,I0⟩
         . exact absurd h YQ
         obtain⟨k',rfl⟩:∃ k',k=k'+1:=⟨k-1,zo⟩
         have:=Vf.frozenAt k';have:=aJ Vf k' (Δ (fU t) x) zs;have LS:=zh Vf;clear Vf;go_wp2;go_ret;have:=PC.o.fresh g rfl;obtain⟨r1,r2⟩:=LS.o.stored k' (Δ 246 (.agg #[Δ (fU t) x,ι 1,φ false]));have Xy:=CI.o.ext (λ_ h=>h) (w':=ς wr (g.p k') (Δ 246 (.agg #[Δ (fU t) x,ι 1,φ false]))) (λb hb _=>aD _ _ _ _ (λe=>hb.2 (by rw[e];rfl))) _ _;rw[set_last] at r1;rw[Jb.o]
         refine⟨Δ 242 (σ g (k'+1) cap),rfl,zbC (by simpa using r1) (λb hb=>by cases hb;show W<=g;omega) ?_,JS.o.apart r2 (λb hb=>by cases hb;omega),pP r2 (λb hb=>by cases hb;omega) zo Qw.o⟩;rw[Nat.add_sub_cancel];exact (cM.rep Xy.notIn k').snoc (pX 1 false Xy.notIn)
      try (exfalso;omega)
      all_goals
       clear EO;rw[zN XH] at Xu;have Jb:=zh Xu;clear Xu;obtain⟨m,hm⟩:∃ m:Nat,(m:Int)=hi-(k:Int):=⟨(hi-k).toNat,zo⟩;have Jm:hi.toNat-k=m:=zo
       rw[Jm] at Jb;go_wp2;go_loopw [9,91] (λo i wr=>∃ j:Nat,j<=m/\i=ι j/\PS bp s (q2+1) wr/\w.g wr bp/\RK BF W (ψ k t++ψ j (.rep t 0 true)) (ψ k (Δ (fU t) x)++ψ j (Δ 246 (.agg #[Δ (fU t) x,ι 0,φ true]))) o wr/\aW (λg=>W<=g/\β o≠some g) wr t (Δ (fU t) x)) (λ_ i _=>m-(ϑ i).toNat)
       case atStart=>exact⟨0,zo,rfl,JS.o,Qw.o,by simpa using PC.o,CI.o⟩
       case round=>
        obtain⟨j,hj,rfl,Qq,Qm,AD,jt⟩:=hrel;generalize wr=wr_1 at*;have vp:=zh Qq;have XB:=zh Qm;have Tz:=zh AD;have WG:=zh jt;have:I (ψ k t++ψ j (aL.rep t 0 true))=k+j:=zs
        by_cases OD:j<m
        . have:(j:Int)<hi-(k:Int):=zo
          clear Qq Qm AD jt;go_wp2_with (at_builtin;refine dM rfl zeb rfl (by exact (Tz.o.alloc _).row) [Value.iface 246 (.agg #[Δ (fU t) x,ι 0,φ true])] zo ?_;intro v' w' Q0 QQ Y3);have PO:=Ξ wr_1 (Ω #[Value.iface 246 (.agg #[Δ (fU t) x,ι 0,φ true])] 165);have Cv:BF<=(wr_1.alloc (Ω #[Value.iface 246 (.agg #[Δ (fU t) x,ι 0,φ true])] 165)).t:=by have:=XB.o.size;simp;omega
          obtain⟨n1,n2⟩:=(Tz.o.alloc (Ω #[Value.iface 246 (.agg #[Δ (fU t) x,ι 0,φ true])] 165)).append Cv (pX 0 true (WG.o.below PO)) Q0 QQ Y3;have Nl:=(vp.o.below PO).apart QQ (λg hg=>by have:=Tz.o.fresh g hg;omega);have Qp:=pP QQ (λg hg=>by have:=Tz.o.fresh g hg;omega) zo (aC XB.o (aH PO _));go_roundw
          case rel=>
           refine⟨j+1,zo,by go_num,Nl,Qp,?_,zdg n2⟩;rw[List.replicate_succ',List.replicate_succ',<-List.append_assoc,<-List.append_assoc];exact n1
          case measure=>simp[RowKit.intOf];omega
        have Pf:j=m:=zo
        subst Pf;clear Qq Qm AD jt;go_wp2;go_ret;rw[Jb.o];exact⟨_,rfl,zbC Tz.o.row (λb hb=>by have:=Tz.o.fresh b hb;show W<=b;omega) (Tz.o.tR.weak λb hb _=>hb.1),vp.o,XB.o⟩
abbrev TOut (bp:Nat) (s:η) (W:Nat) (w:ω) (x:Except mP (aL×Nat)):Ending->World->Prop:=Out bp s w (λt v w'=>aW (Fr W) w' t v) x
theorem ze1 (bp:Nat) (s:η) (p W:Nat) (w:ω) (t:aL) (v:Value) (h:PS bp s p w) (hs:s.size<=60) (vz:bp<W) (hW:W<=w.t) (ht:aW (Fr W) w t v):
 Γ 129 #[π bp,v] w (TOut bp s W w (gY s p t)):=by
 obtain⟨x,rfl,_⟩:=kE t v _ w ht;cases hx:cQ s p with
 | error e=>
  have HC:zH (gY s p t=.error e):=zh (by rw[gY,hx]);have hP:=mZ bp s p w e h hx;go_in;exact zzAz
 | ok c=>
  have hP:=jJ bp s p w c h hx;have hC:gY s p t=if c=42 then .ok (.rep t 0 false,p+1) else if c=43 then .ok (.rep t 1 false,p+1) else if c=63 then .ok (.rep t 0 true,p+1) else if c=123 then nX s p t else .ok (t,p):=by rw[gY,hx]
  by_cases h1:c=42
  . subst h1
    rw[zP rfl] at hC;have HC:=zh hC;go_in;go_wp2_with (first|(go_at_call 118;refine hP.mono ?_;rintro e w1 ⟨rfl,Hk⟩;have H1:=zh (h.below Hk))|(go_at_call 119;refine (nG bp s p _ 42 (p+1) H1.o (jQ hx zd zd)).mono ?_;rintro e w2 ⟨rfl,Yc,qk⟩));go_ret;rw[HC.o];exact⟨Δ 246 (.agg #[Δ (fU t) x,ι 0,φ false]),rfl,pX 0 false ((ht.below Hk).grown vz qk),Yc,aC (aH Hk _) qk⟩
  by_cases h2:c=43
  . subst h2
    rw[zN h1,zP rfl] at hC;have HC:=zh hC;go_in;go_wp2_with (first|(go_at_call 118;refine hP.mono ?_;rintro e w1 ⟨rfl,Hk⟩;have H1:=zh (h.below Hk))|(go_at_call 119;refine (nG bp s p _ 43 (p+1) H1.o (jQ hx zd zd)).mono ?_;rintro e w2 ⟨rfl,Yc,qk⟩));go_ret;rw[HC.o];exact⟨Δ 246 (.agg #[Δ (fU t) x,ι 1,φ false]),rfl,pX 1 false ((ht.below Hk).grown vz qk),Yc,aC (aH Hk _) qk⟩
  by_cases h3:c=63
  . subst h3
    rw[zN h1,zN h2,zP rfl] at hC;have HC:=zh hC;go_in;go_wp2_with (first|(go_at_call 118;refine hP.mono ?_;rintro e w1 ⟨rfl,Hk⟩;have H1:=zh (h.below Hk))|(go_at_call 119;refine (nG bp s p _ 63 (p+1) H1.o (jQ hx zd zd)).mono ?_;rintro e w2 ⟨rfl,Yc,qk⟩));go_ret;rw[HC.o];exact⟨Δ 246 (.agg #[Δ (fU t) x,ι 0,φ true]),rfl,pX 0 true ((ht.below Hk).grown vz qk),Yc,aC (aH Hk _) qk⟩
  by_cases h4:c=123
  . subst h4
    rw[zN h1,zN h2,zN h3,zP rfl] at hC;have HC:=zh hC;have Qd:p+1<=s.size:=((zbZ hx).2.2 zd).1;clear hC;go_in;go_wp2_with (first|(go_at_call 118;refine hP.mono ?_;rintro e w1 ⟨rfl,Hk⟩;have H1:=zh (h.below Hk)));refine (times_any bp s p W _ t _ H1.o Qd hs vz (zT hW Hk.size) (ht.below Hk)).mono ?_;intro r w2 hr;cases Yl:nX s p t with
    | error e=>
     rw[Yl] at hr;obtain⟨rfl,qk⟩:=hr;refine⟨rfl,?_⟩;show TOut bp s W w _ _ _;rw[HC.o,Yl];exact⟨rfl,aC (aH Hk _) qk⟩
    | ok cq=>
     rw[Yl] at hr;obtain⟨v2,rfl,jt,yf,qk⟩:=hr;go_wp2;go_ret;rw[HC.o,Yl];exact⟨_,rfl,jt,yf,aC (aH Hk _) qk⟩
  rw[zN h1,zN h2,zN h3,zN h4] at hC
  have HC:=zh hC;have:(c==42)=false:=by simp[h1]
  have:(c==43)=false:=by simp[h2]
  have:(c==63)=false:=by simp[h3]
  have:(c==123)=false:=by simp[h4]
  go_in;go_wp2_with (first|(go_at_call 118;refine hP.mono ?_;rintro e w1 ⟨rfl,Hk⟩;have H1:=zh (h.below Hk)));go_ret;rw[HC.o];exact⟨_,rfl,ht.below Hk,H1.o,aH Hk _⟩
def RowC (f:Nat):Prop:=∀ (bp:Nat) (s:η) (p deep:Nat) (w:ω),PS bp s p w->s.size<=60->deep<=8->kM s f deep p []≠ .error (0,0)->
 Γ 117 #[π bp,ι deep] w (TOut bp s w.t w (kM s f deep p []))
def AtomC (f:Nat):Prop:=∀ (bp:Nat) (s:η) (p deep:Nat) (w:ω),PS bp s p w->s.size<=60->deep<=8->kT s f deep p≠ .error (0,0)->
 Γ 130 #[π bp,ι deep] w (TOut bp s w.t w (kT s f deep p))
def AltC (f:Nat):Prop:=∀ (bp:Nat) (s:η) (p deep:Nat) (w:ω),PS bp s p w->s.size<=60->deep<=8->nI s f deep p≠ .error (0,0)->
 Γ 98 #[π bp,ι deep] w (TOut bp s w.t w (nI s f deep p))
theorem vW (s:η) (f deep p:Nat) (l:List aL):kM s (f+1) deep p l=
 match cQ s p with
 | .error e=>.error e
 | .ok c=>
  if c= -1\/c=124\/c=41 then .ok (.row l,p)
  else
   match kT s f deep p with
   | .error e=>.error e
   | .ok (t,q)=>
    match gY s q t with
    | .error e=>.error e
    | .ok (u,q2)=>kM s f deep q2 (l++[u]):=by rw[kM];rfl
theorem row_any (f:Nat) (hf:f<=1000) (ih:∀ g,g<f->AtomC g):RowC f:=by
 intro bp s p deep w h hs V7 Hq;have IH:=zh ih;have vz:=h.lt;generalize hR:kM s f deep p []=R at*;clear ih;go_in;go_wp2;go_loopg [5] f (λgh o wr=>∃ (l:List aL) (vs:ζ) (q g:Nat),g=gh/\I l+g=f/\R=kM s g deep q l/\RK w.t w.t l vs o wr/\PS bp s q wr/\w.g wr bp)
 case atStart=>exact⟨[],[],p,f,rfl,zs,hR.symm,RK.nil _ _ _,h,eN _ _⟩
 case round=>
  obtain⟨l,vs,q,g,At,I5,Hy,AD,Qq,Qm⟩:=hrel;have Hv:=Qm.size;cases g with
  | zero=>
   rw[kM] at Hy;exact absurd Hy Hq
  | succ g=>
   rw[vW] at Hy;cases hx:cQ s q with
   | error e=>
    exact zzBD
   | ok c=>
    have hP:=jJ bp s q _ c Qq hx;have:=zh hx;rw[hx] at Hy;simp only at Hy;clear hx;by_cases Y4:c= -1\/c=124\/c=41
    . rw[zP Y4] at Hy
      have HC:=zh Hy;clear Hy
      rcases Y4 with rfl|rfl|rfl
      all_goals
       go_wp2_with (first|(go_at_call 118;refine hP.mono ?_;rintro e w1 ⟨rfl,Hk⟩));go_ret;rw[HC.o];have DF:=AD.below Hk;exact⟨_,rfl,zbC DF.row DF.fresh (DF.tR.weak λb hb _=>hb.1),Qq.below Hk,aC Qm (aH Hk _)⟩
    rw[zN Y4] at Hy
    have:(c== -1)=false:=zx
    have:(c==124)=false:=zx
    have:(c==41)=false:=zx
    have HL:=zh Hy;clear Hy Y4;go_wp2_with (first|(go_at_call 118;refine hP.mono ?_;rintro e w1 ⟨rfl,Hk⟩));have u9:=zh (Qq.below Hk);have LR:=zh (AD.below Hk);have AR:=zh (aC Qm (aH Hk (some bp)));have kz:∀ b,Value.ownBlock u5=some b->b<w1.t:=λb hb=>zLd (AD.row.lt b hb).2 Hk.size;have hsz1:w.heap.size<=w1.heap.size:=zT Hv Hk.size;clear Hk Hv hP;cases Yl:kT s g deep q with
    | error e=>
     have yi:R=.error e:=by rw[HL.o,Yl]
     refine (IH.o g zo bp s q deep w1 u9.o hs V7 (by rw[Yl,<-yi];exact Hq)).mono ?_;intro r w2 hr;rw[Yl] at hr;obtain⟨rfl,qk⟩:=hr;refine⟨rfl,?_⟩;rw[yi];exact⟨rfl,aC AR.o qk⟩
    | ok tq=>
     obtain⟨t,q1⟩:=tq;refine (IH.o g zo bp s q deep w1 u9.o hs V7 zg).mono ?_;intro r w2 hr;rw[Yl] at hr;obtain⟨v,rfl,jt,yf,qk⟩:=hr;have CI:=zh jt;have xz:=zh yf;have Ae:=zh qk;have Jb:=zh Yl;clear jt yf qk Yl;have ML:bp<w1.t:=zo
     go_wp2_with fail;cases Te:gY s q1 t with
     | error e=>
      have yi:R=.error e:=by rw[HL.o,Jb.o];simp only;rw[Te]
      refine (ze1 bp s q1 w1.t w2 t v xz.o hs ML Ae.o.size CI.o).mono ?_;intro r w3 hr;rw[Te] at hr;obtain⟨rfl,ye⟩:=hr;refine⟨rfl,?_⟩;rw[yi];exact⟨rfl,aC AR.o (aC Ae.o ye)⟩
     | ok uq=>
      obtain⟨u,q2⟩:=uq;have yi:R=kM s g deep q2 (l++[u]):=by rw[HL.o,Jb.o];simp only;rw[Te]
      refine (ze1 bp s q1 w1.t w2 t v xz.o hs ML Ae.o.size CI.o).mono ?_;intro r w3 hr;rw[Te] at hr;obtain⟨v3,rfl,pu,yo,ye⟩:=hr;obtain⟨y3,rfl,_⟩:=kE u v3 _ w3 pu;have B9:=zh ((LR.o.grown vz vz Ae.o).grown vz vz ye);have JW:zH (aW (λb=>w.t<=b/\Value.ownBlock u5≠some b) w3 u (Δ (fU u) y3)):=zh (pu.weak λb hb _=>⟨zT hsz1 hb,λe=>by have:=kz b e;omega⟩);have YL:=zh yo;have X9:=aC AR.o (aC Ae.o ye)
      have kj:=zh X9;have QL:=zh yi;have:=X9.size;clear pu yo ye X9 yi Te CI xz Ae LR AR u9;go_wp2_with (at_builtin;refine dM rfl zeb rfl (by exact (B9.o.alloc _).row) [Value.iface (fU u) y3] zo ?_;intro v' w' Q0 QQ Y3);have PO:=Ξ w3 (Ω #[Value.iface (fU u) y3] 165);have Cv:w.t<=(κ w3 (Ω #[Value.iface (fU u) y3] 165)).heap.size:=zx
      obtain⟨n1,n2⟩:=(B9.o.alloc (Ω #[Value.iface (fU u) y3] 165)).append Cv (JW.o.below PO) Q0 QQ Y3;have Nl:=(YL.o.below PO).apart QQ (λb hb=>by have:=B9.o.fresh b hb;omega);have Qp:=pP QQ B9.o.fresh Cv (aC kj.o (aH PO _));go_roundg g
      case rel=>exact⟨l++[u],_,q2,g,rfl,zg,QL.o,n1,Nl,Qp⟩
      all_goals (have:=At;omega)
theorem altP_succ (s:η) (f deep p:Nat):nI s (f+1) deep p=
 match kM s f deep p [] with
 | .error e=>.error e
 | .ok (t,q)=>fT s f deep q t:=by rw[nI];rfl
theorem ze3 (s:η) (f deep p:Nat) (t:aL):fT s (f+1) deep p t=
 match cQ s p with
 | .error e=>.error e
 | .ok c=>
  if c=124 then
   match kM s f deep (p+1) [] with
   | .error e=>.error e
   | .ok (u,q)=>fT s f deep q (.either t u)
  else .ok (t,p):=by rw[fT];rfl
theorem alt_any (f:Nat) (ih:∀ g,g<f->RowC g):AltC f:=by
 intro bp s p deep w h hs V7 Hq;cases f with
 | zero=>rw[nI] at Hq;exact absurd rfl Hq
 | succ f=>
 rw[altP_succ] at Hq ⊢;have IH:=zh ih;have vz:=h.lt;clear ih;cases hx:kM s f deep p [] with
 | error e=>
  rw[hx] at Hq;simp only at Hq;have hP:=IH.o f zo bp s p deep w h hs V7 zg;rw[hx] at hP;clear hx;go_in;go_wp2_with (first|(go_at_call 117;refine hP.mono ?_;rintro r w1 ⟨rfl,QU⟩));exact⟨rfl,rfl,QU⟩
 | ok tq=>
  obtain⟨t,q⟩:=tq;rw[hx] at Hq;simp only at Hq ⊢;generalize hR:fT s f deep q t=R at*;have hP:=IH.o f zo bp s p deep w h hs V7 zg;rw[hx] at hP;clear hx;go_in;go_wp2_with (first|(go_at_call 117;refine hP.mono ?_;rintro r w1 ⟨v1,rfl,htr1,Cq,QE⟩));clear hP;go_loopg [5] f (λgh o wr=>∃ (t:aL) (q g:Nat),g=gh/\g<=f/\R=fT s g deep q t/\aW (Fr w.t) wr t o/\PS bp s q wr/\w.g wr bp)
  case atStart=>exact⟨t,q,f,rfl,bR,hR.symm,htr1,Cq,QE⟩
  case round=>
   obtain⟨t,q,g,At,SD,Hy,jt,Qq,Qm⟩:=hrel;have HGG:=zh At;clear At;cases g with
   | zero=>
    rw[fT] at Hy;exact absurd Hy Hq
   | succ g=>
    rw[ze3] at Hy;cases hx:cQ s q with
    | error e=>
     exact zzBD
    | ok c=>
     have hP:=jJ bp s q _ c Qq hx;have HX:=zh hx;rw[hx] at Hy;simp only at Hy;clear hx;by_cases VI:c=124
     . subst VI
       rw[zP rfl] at Hy;have HL:=zh Hy;clear Hy;go_wp2_with (first|(go_at_call 118;refine hP.mono ?_;rintro e w2 ⟨rfl,Hm⟩;have vp:=zh (Qq.below Hm))|(go_at_call 119;refine (nG bp s q _ 124 (q+1) vp.o (jQ HX.o zd zd)).mono ?_;rintro e w3 ⟨rfl,ti,ye⟩));have JW:=zh ((jt.below Hm).grown vz ye);have Ky:=zh ti;have kj:=zh (aC Qm (aC (aH Hm (some bp)) ye));clear Hm ti ye vp hP;cases Yl:kM s g deep (q+1) [] with
       | error e=>
        have yi:R=.error e:=by rw[HL.o,Yl]
        refine (IH.o g zo bp s (q+1) deep w3 Ky.o hs V7 (by rw[Yl,<-yi];exact Hq)).mono ?_;intro r w4 hr;rw[Yl] at hr;obtain⟨rfl,Vp⟩:=hr;refine⟨rfl,?_⟩;rw[yi];exact⟨rfl,aC kj.o Vp⟩
       | ok uq=>
        obtain⟨u,q2⟩:=uq;have yi:R=fT s g deep q2 (.either t u):=by rw[HL.o,Yl]
        refine (IH.o g zo bp s (q+1) deep w3 Ky.o hs V7 zg).mono ?_;intro r w4 hr;rw[Yl] at hr;obtain⟨v4,rfl,Ig,Nm,Vp⟩:=hr;have hte:=zeU (JW.o.grown vz Vp) (Ig.weak (T:=Fr w.t) λb hb _=>zT kj.o.size hb);obtain⟨x0,e0,_⟩:=kE t _ _ w3 JW.o;obtain⟨x4,rfl,_⟩:=kE u v4 _ w4 Ig;subst e0;have su:=zh hte;have Ws:=zh Nm;have wV:=zh (aC kj.o Vp);have QL:=zh yi;clear hte Nm Vp Ig yi Yl JW Ky kj;go_wp2_with fail
        go_roundg g
        case rel=>exact⟨.either t u,q2,g,rfl,zo,QL.o,su.o,Ws.o,wV.o⟩
        all_goals (have:=HGG.o;omega)
     rw[zN VI] at Hy
     have:(c==124)=false:=by simp[VI]
     have HL:=zh Hy;clear Hy;go_wp2_with (first|(go_at_call 118;refine hP.mono ?_;rintro e w2 ⟨rfl,Hm⟩));go_ret;rw[HL.o];exact⟨_,rfl,jt.below Hm,Qq.below Hm,aC Qm (aH Hm _)⟩
theorem zij (s:η) (f deep p:Nat):kT s (f+1) deep p=
 match cQ s p with
 | .error e=>.error e
 | .ok c=>
  if c=40 then
   if deep=8 then .error (5,p) else
    match nI s f (deep+1) (p+1) with
    | .error e=>.error e
    | .ok (t,q)=>
     match cQ s q with
     | .error e=>.error e
     | .ok d=>if d=41 then .ok (t,q+1) else .error (2,q)
  else if c=91 then
   match dN s (p+1) p with
   | .error e=>.error e
   | .ok (l,q)=>.ok (.cL l,q)
  else if c=46 then .ok (.cL [(0,9),(11,1114111)],p+1)
  else if c=93\/c=123\/c=125\/c=42\/c=43\/c=63 then .error (2,p)
  else
   match cD s p with
   | .error e=>.error e
   | .ok (x,q)=>.ok (.cL [(x,x)],q):=by rw[kT];rfl
theorem zfb (l:θ) (hl:0<I l) (hlm:I l<=1000) (b:Nat) (hb:w.h b (flat l).toArray 251):gV w (σ b (I l) (I l)) l:=
 ⟨zec l,.inr ⟨b,I l,_,rfl,rC,hb,bR,by unfold maxLen;omega,by simp[zec],by simp[<-zec]⟩⟩
theorem atom_any (f:Nat) (ih:∀ g,g<f->AltC g):AtomC f:=by
 intro bp s p deep w h hs V7 Hq;cases f with
 | zero=>rw[kT] at Hq;exact absurd rfl Hq
 | succ f=>
 obtain⟨d0,d1,g1⟩:=h.cells;have H:=zh h;have IH:=zh ih;have vz:=h.lt;generalize hR:kT s (f+1) deep p=R at*;rw[zij] at hR;have QA:=zh Hq;clear ih Hq;cases hx:cQ s p with
 | error e=>
  have HC:zH (R=.error e):=zh zg;have hP:=mZ bp s p w e h hx;clear h hx hR;go_in;exact zzAz
 | ok c=>
  have hP:=jJ bp s p w c h hx;have HX:=zh hx;rw[hx] at hR;simp only at hR;clear h hx;by_cases A7:c=40
  . subst A7
    rw[zP rfl] at hR;by_cases h8:deep=8
    . rw[zP h8] at hR
      have HC:=zh hR.symm;have e8:((deep:Int)==8)=true:=zx
      clear hR;go_in;go_wp2_with (first|(go_at_call 118;refine hP.mono ?_;rintro e w1 ⟨rfl,Hk⟩)|(go_at_call 99;refine (eK 5 p _).mono ?_;rintro e w' ⟨rfl,rfl⟩));refine⟨rfl,?_⟩;rw[HC.o];exact⟨rfl,aH Hk _⟩
    rw[zN h8] at hR
    have HR:=zh hR;have e8:((deep:Int)==8)=false:=zx
    have Kd:=zh (jQ HX.o zd zd);clear hR;go_in;go_wp2_with (first|(go_at_call 118;refine hP.mono ?_;rintro e w1 ⟨rfl,Hk⟩;have H1:=zh (H.o.below Hk))|(go_at_call 119;refine (nG bp s p _ 40 (p+1) H1.o Kd.o).mono ?_;rintro e w2 ⟨rfl,Yc,qk⟩));have vp:=zh Yc;have XB:=zh (aC (aH Hk (some bp)) qk);clear Hk Yc qk H1 hP;cases Yl:nI s f (deep+1) (p+1) with
    | error e=>
     have yi:R=.error e:=by rw[<-HR.o,Yl]
     refine (IH.o f zo bp s (p+1) (deep+1) w2 vp.o hs zo (by rw[Yl,<-yi];exact QA.o)).mono ?_;intro r w3 hr;rw[Yl] at hr;obtain⟨rfl,ye⟩:=hr;refine⟨rfl,?_⟩;rw[yi];exact⟨rfl,aC XB.o ye⟩
    | ok tq=>
     obtain⟨t,q⟩:=tq;refine (IH.o f zo bp s (p+1) (deep+1) w2 vp.o hs zo zg).mono ?_;intro r w3 hr;rw[Yl] at hr;obtain⟨v3,rfl,pu,ti,ye⟩:=hr;have yi:=HR.o;rw[Yl] at yi;simp only at yi;have JW:=zh (pu.weak (T:=Fr w.t) λb hb _=>zT XB.o.size hb);have Ky:=zh ti;have kj:=zh (aC XB.o ye);clear pu ti ye vp XB HR Yl;cases Te:cQ s q with
     | error e=>
      rw[Te] at yi;have QL:=zh yi;clear yi;go_wp2_with (first|(go_at_call 118;refine (mZ bp s q _ e Ky.o Te).mono ?_;rintro e w4 ⟨rfl,qu⟩));exact zzDk
     | ok d=>
      rw[Te] at yi;simp only at yi;have dp:=zh Te;clear Te;by_cases F2:d=41
      . subst F2
        rw[zP rfl] at yi;have QL:=zh yi;have htk3:=zh (jQ dp.o zd zd);clear yi;go_wp2_with (first|(go_at_call 118;refine (jJ bp s q _ 41 Ky.o dp.o).mono ?_;rintro e w4 ⟨rfl,qu⟩;have H4:=zh (Ky.o.below qu))|(go_at_call 119;refine (nG bp s q _ 41 (q+1) H4.o htk3.o).mono ?_;rintro e w5 ⟨rfl,hps5,Jj⟩));go_ret;rw[<-QL.o];exact⟨_,rfl,(JW.o.below qu).grown vz Jj,hps5,aC kj.o (aC (aH qu _) Jj)⟩
      rw[zN F2] at yi
      have QL:=zh yi;have:(d != 41)=true:=by simp[F2]
      clear yi;go_wp2_with (first|(go_at_call 118;refine (jJ bp s q _ d Ky.o dp.o).mono ?_;rintro e w4 ⟨rfl,qu⟩;have H4:=zh (Ky.o.below qu);obtain⟨k0,k1,k2⟩:=H4.o.cells)|(go_at_call 99;refine (eK 2 q _).mono ?_;rintro e w' ⟨rfl,rfl⟩));exact zzDk
  rw[zN A7] at hR
  have:(c==40)=false:=by simp[A7]
  by_cases CM:c=91
  . subst CM
    rw[zP rfl] at hR;have HR:=zh hR;have Kd:=zh (jQ HX.o zd zd);clear hR;go_in;go_wp2_with (first|(go_at_call 118;refine hP.mono ?_;rintro e w1 ⟨rfl,Hk⟩;have H1:=zh (H.o.below Hk))|(go_at_call 119;refine (nG bp s p _ 91 (p+1) H1.o Kd.o).mono ?_;rintro e w2 ⟨rfl,Yc,qk⟩));have vp:=zh Yc;have XB:=zh (aC (aH Hk (some bp)) qk);clear Hk Yc qk H1 hP;refine (class_any bp s (p+1) p w2 vp.o hs).mono ?_;intro r w3 hr
    cases Yl:dN s (p+1) p with
    | error e=>
     rw[Yl] at hr;obtain⟨rfl,ye⟩:=hr;refine⟨rfl,?_⟩;rw[<-HR.o,Yl];exact⟨rfl,aC XB.o ye⟩
    | ok lq=>
     obtain⟨l,q⟩:=lq;rw[Yl] at hr;obtain⟨v3,rfl,pu,ti,ye⟩:=hr;have JW:=zh ((show aW (Fr w2.t) w3 (.cL l) v3 from pu).weak (T:=Fr w.t) λb hb _=>zT XB.o.size hb);have Ky:=zh ti;have kj:=zh (aC XB.o ye);have yi:=HR.o;rw[Yl] at yi;have QL:=zh yi;clear pu ti ye HR vp XB Yl yi;go_wp2;go_ret;rw[<-QL.o];exact⟨_,rfl,JW.o,Ky.o,kj.o⟩
  rw[zN CM] at hR
  have:(c==91)=false:=by simp[CM]
  by_cases Ut:c=46
  . subst Ut
    rw[zP rfl] at hR;have HR:=zh hR;have Kd:=zh (jQ HX.o zd zd);clear hR;go_in;go_wp2_with (first|(go_at_call 118;refine hP.mono ?_;rintro e w1 ⟨rfl,Hk⟩;have H1:=zh (H.o.below Hk))|(go_at_call 119;refine (nG bp s p _ 46 (p+1) H1.o Kd.o).mono ?_;rintro e w2 ⟨rfl,Yc,qk⟩));go_ret;rw[<-HR.o];have UX:=aC (aH Hk (some bp)) qk
    have PO:=Ξ w2 (Ω #[ξ 0,ξ 9,ξ 11,ξ 1114111] 251);exact⟨_,rfl,zdT (zfb [(0,9),(11,1114111)] zd zd w2.t ((aV w2 _ _).trans (zP rfl))) (λb hb=>by cases hb;exact UX.size),Yc.below PO,aC UX (aH PO _)⟩
  rw[zN Ut] at hR
  have:(c==46)=false:=by simp[Ut]
  by_cases Qt:c=93\/c=123\/c=125\/c=42\/c=43\/c=63
  . rw[zP Qt] at hR
    have HR:=zh hR;clear hR
    rcases Qt with rfl|rfl|rfl|rfl|rfl|rfl
    all_goals
     go_in;go_wp2_with (first|(go_at_call 118;refine hP.mono ?_;rintro e w1 ⟨rfl,Hk⟩)|(go_at_call 99;refine (eK 2 p _).mono ?_;rintro e w' ⟨rfl,rfl⟩));refine⟨rfl,?_⟩;rw[<-HR.o];exact⟨rfl,aH Hk _⟩
  rw[zN Qt] at hR
  have HR:=zh hR;have:(c==93)=false:=zx
  have:(c==123)=false:=zx
  have:(c==125)=false:=zx
  have:(c==42)=false:=zx
  have:(c==43)=false:=zx
  have:(c==63)=false:=zx
  clear hR Qt;go_in;go_wp2_with (first|(go_at_call 118;refine hP.mono ?_;rintro e w1 ⟨rfl,Hk⟩;have H1:=zh (H.o.below Hk)));refine (zdL bp s p w1 H1.o).mono ?_;intro r w2 hr;cases Yl:cD s p with
  | error e=>
   rw[Yl] at hr;obtain⟨rfl,qk⟩:=hr;refine⟨rfl,?_⟩;rw[<-HR.o,Yl];exact⟨rfl,aC (aH Hk _) qk⟩
  | ok cq=>
   obtain⟨y,q⟩:=cq;rw[Yl] at hr;obtain⟨v,rfl,rfl,Yc,qk⟩:=hr;have yi:=HR.o;rw[Yl] at yi;have QL:=zh yi;have UX:=aC (aH Hk (some bp)) qk;have vp:=zh Yc;have XB:=zh UX;clear yi HR qk UX Yc Hk Yl H1;go_wp2;go_ret;rw[<-QL.o];have PO:=Ξ w2 (Ω #[ξ y,ξ y] 251)
   exact⟨_,rfl,zdT (zfb [(y,y)] zs zs w2.t ((aV w2 _ _).trans (zP rfl))) (λb hb=>by cases hb;exact XB.o.size),vp.o.below PO,aC XB.o (aH PO _)⟩
theorem parse_all (f:Nat) (hf:f<=1000):∀ g,g<=f->RowC g/\AtomC g/\AltC g:=by
 intro g
 induction g using Nat.strongRecOn with
 | ind g ih=>
  grind [row_any,atom_any,alt_any]
theorem lY {a:Addr} (h:w.cell? a=some v):a.block<w.t:=by
 grind [World.cell?]
theorem zin (a b:Addr) (w:ω):
 CallsD prog 97 #[Φ (some a),Φ (some b)] .returning w λe u' w'=>e=ρ (ϕ #[])/\u'=.returning/\w'=w:=by
 refine callsD_of_wpS func97 rfl λc₀ cs hu=> ?_;apply wpS_seq;apply wpS_region;generalize hQ:Exit.thenS _ _=Q;simp[wpOpsS,go_sem,recoverD,hu,ntmps97];subst hQ;simp only[Exit.thenS];refine wpS_of_wp (wp_mono (Q:=λen a' w'=>en=.normal/\a'.defers=[]/\w'=w) ?_ ?_)
 . change Code.wp _ _ _ {tmps:=#[Φ (some a),Φ (some b),undef,undef,undef,.nilIface,undef,undef,undef,undef,undef,undef,undef,undef,undef,undef,undef,undef],defers:=[]} w
   go_wp2
   all_goals trivial
 rintro e a' w' ⟨rfl,hd,rfl⟩
 cases c₀;simp_all[bodyPostS,results,results97]
theorem ze7 (v:Value) (w:ω):(Instr.typeAssert (Δ 223 v) 20 223 true).run prog w=.ok (ϕ #[v,φ true]) w:=by kernel_rfl
theorem zb9 (ba bb:Nat) (x y:Value) (e k:Nat) (w:ω) (ha:w.v ba 0 x) (hb:w.v bb 0 y) (fa:w.q ba 0) (fb:w.q bb 0) (KJ:ba≠bb):
 CallsD prog 97 #[π ba,π bb] (.panicking [{v:=wrongV e k,recovered:=false}]) w λr u' w'=>
  r=ρ (ϕ #[])/\u'=.panicking [{v:=wrongV e k,recovered:=true}]/\w'=(κ (κ (ς (ς w ba.a .nilIface) bb.a (Δ 87 (π (w.t+1)))) (Ω #[ι e,ι k] 223)) (Ω #[ι e,ι 0,ι k] 89)).drew:=by
 refine callsD_of_wpS func97 rfl λc₀ cs hu=> ?_;apply wpS_seq;apply wpS_region;generalize hQ:Exit.thenS _ _=Q;simp[wpOpsS,go_sem,recoverD,hu,ntmps97];subst hQ;simp only[Exit.thenS];refine wpS_of_wp (wp_mono (Q:=λen a' w'=>en=.normal/\a'.defers=[]/\w'=(κ (κ (ς (ς w ba.a .nilIface) bb.a (Δ 87 (π (w.t+1)))) (Ω #[ι e,ι k] 223)) (Ω #[ι e,ι 0,ι k] 89)).drew) ?_ ?_)
 . change Code.wp _ _ _ {tmps:=#[π ba,π bb,undef,undef,undef,Δ 223 (.agg #[ι e,ι k]),undef,undef,undef,undef,undef,undef,undef,undef,undef,undef,undef,undef],defers:=[]} w
   have:=ze7 (.agg #[ι e,ι k]);have:=lY ha;have:=lY hb;go_wp2;go_region_with fail
   all_goals go_wp2
   all_goals rfl
 rintro en a' w' ⟨rfl,hd,h⟩
 cases c₀;simp_all[bodyPostS,results,results97]
theorem zc1 (w:ω) (ba bb e k:Nat) (ta tb:TypeId) {xa xb:Value} (ha:w.h ba #[xa] ta) (hb:w.h bb #[xb] tb) (KJ:ba≠bb):
 let w':=(κ (κ (ς (ς w ba.a .nilIface) bb.a (Δ 87 (π (w.t+1)))) (Ω #[ι e,ι k] 223)) (Ω #[ι e,ι 0,ι k] 89)).drew
 (w'.h ba #[.nilIface] ta/\w'.h bb #[Δ 87 (π (w.t+1))] tb/\w'.h (w.t+1) #[ι e,ι 0,ι k] 89)/\
 (∀ B,B<=ba->B<=bb->Below B w w'):=by
 intro w';have:=aA ha;have:=aA hb;have:(ς w ba.a .nilIface).heap.size=w.heap.size:=zs
 have h1:(ς (ς w ba.a .nilIface) bb.a (Δ 87 (π (w.t+1)))).h ba #[.nilIface] ta:=by
  rw[aD _ _ _ _ zo,aB w ba 0 .nilIface _ _ _ ha];rfl
 have h2:(ς (ς w ba.a .nilIface) bb.a (Δ 87 (π (w.t+1)))).h bb #[Δ 87 (π (w.t+1))] tb:=by
  rw[aB _ bb 0 _ _ _ _ ((aD _ _ _ _ zg).trans hb)];rfl
 refine⟨⟨?_,?_,?_⟩,λB hA hB=> ?_⟩
 . show (World.alloc _ _).heap[ba]?=_
   rw[aV,zN zx,aV,zN zg];exact h1
 . show (World.alloc _ _).heap[bb]?=_
   rw[aV,zN zx,aV,zN zg];exact h2
 . show (World.alloc _ _).heap[_]?=_
   rw[aV,zP zs]
 exact (((((zBr B w).setCell hA _).setCell hB _).alloc zg _).alloc zx _).drew
theorem xG {a b:ω} {g B:Nat} (h:a.g b g) (hB:B<=g) (W7:B<=a.t):Below B a b:=
 ⟨h.os,h.tape,h.output,h.size,λk hk=>h.block k zo (λe=>zg)⟩
def PRes (s:η) (w:ω) (r:Ending) (w':ω):Prop:=
 match iE s with
 | .ok t=>∃ v,r=ρ (ϕ #[v,.nilIface])/\aW (Fr w.t) w' t v
 | .error e=>∃ b,r=ρ (ϕ #[.nilIface,Δ 87 (π b)])/\w'.h b #[ι e.1,ι 0,ι e.2] 89/\w.t<=b
theorem start_ps (s:η) (w:ω) (hs:s.size<=60) (hT:oK w) (hg:jV<=w.t):
 PS (w.t+1+1) s 0 (κ (κ (κ w (Ω #[.nilIface] 165)) (Ω #[.nilIface] 51)) (Ω #[γ s,ι 0] 226)):=by
 refine⟨?_,?_,zo,zo,rC⟩
 . unfold PAt
   rw[aV,zP zs];rfl
 exact fD (B:=w.t) hT (((Ξ w _).alloc zs _).alloc zx _) hg
theorem zfJ (s:η) (w:ω) (hs:s.size<=60) (hT:oK w) (hg:jV<=w.t) (hfuel:nI s (4*s.size+10) 0 0≠ .error (0,0)):
 Γ 61 #[γ s] w λr w'=>PRes s w r w'/\w.u w':=by
 have Qq:=start_ps s w hs hT hg;have HF:=zh hfuel;have HC:∀ X,nI s (4*s.size+10) 0 0=X->iE s=match X with
  | .error e=>.error e
  | .ok (t,q)=>if q<s.size then .error (2,q) else .ok t:=λX h=>by rw[iE,h];rfl
 have Y8:=zh HC;clear hfuel HC
 go_enter_defers func61,ntmps61
 go_wp2_with fail;have ZK:=(((Ξ w (Ω #[.nilIface] 165)).alloc zs (Ω #[.nilIface] 51)).alloc zx (Ω #[γ s,ι 0] 226));generalize PM:κ (κ (κ w (Ω #[.nilIface] 165)) (Ω #[.nilIface] 51)) (Ω #[γ s,ι 0] 226)=w3 at*;have W4:=(parse_all (4*s.size+10) zo (4*s.size+10) bR).2.2 _ s 0 0 w3 Qq hs zo HF.o;refine W4.mono ?_;intro r w4 hr;have i9:w.heap.size+1+1<w3.heap.size:=Qq.lt
 have Bl:w3.h w.t #[.nilIface] 165:=by
  rw[<-PM,aV,zN zx,aV,zN zs,aV,zP rfl]
 have Hu:w3.h (w.t+1) #[.nilIface] 51:=by
  rw[<-PM,aV,zN zs,aV,zP zs]
 cases hx:nI s (4*s.size+10) 0 0 with
 | error e=>
  have hP:=Y8.o _ hx;rw[hx] at hr;obtain⟨rfl,Vp⟩:=hr;have TN:=nN Bl Vp zo;have qu:=nN Hu Vp zo;refine zzBC ?_;refine (zb9 w.t (w.t+1) .nilIface .nilIface e.1 e.2 w4 (bF w4 _ 0 _ _ _ TN) (bF w4 _ 0 _ _ _ qu) (bN w4 _ 0 _ _ TN) (bN w4 _ 0 _ _ qu) zo).mono ?_;rintro r' u' w5 ⟨rfl,rfl,Xz⟩
  have Ia:w.heap.size+1+1<w4.heap.size:=zLd i9 Vp.size;obtain⟨Dp,Ct⟩:=zc1 w4 w.t (w.t+1) e.1 e.2 _ _ TN qu zo;rw[<-Xz] at Dp Ct;have gy:=bF w5 _ 0 _ _ _ Dp.1;have Qn:=bF w5 _ 0 _ _ _ Dp.2.1;simp only[zLa] at gy Qn;simp[Leaves,settle,results,results61,go_sem,gy,Qn];refine⟨?_,?_⟩
  . unfold PRes
    rw[hP];exact⟨_,rfl,Dp.2.2,zo⟩
  . exact ZK.trans ((xG Vp zo zo).trans (Ct w.t bR zo))
 | ok tq=>
  obtain⟨t,q⟩:=tq;have hP:=Y8.o _ hx;rw[hx] at hr;obtain⟨v,rfl,jt,Nm,Vp⟩:=hr;have TN:=nN Bl Vp zo;have qu:=nN Hu Vp zo;have MQ:=bF w4 _ 0 _ _ _ TN;have Dc:=bF w4 _ 0 _ _ _ qu;have:=bN w4 _ 0 _ _ TN;have:=bN w4 _ 0 _ _ qu;simp only[zLa] at MQ Dc;obtain⟨d0,d1,g1⟩:=Nm.cells;obtain⟨x,rfl,_⟩:=kE t v _ w4 jt;have:=Nm.le;simp only at hP;by_cases Hf:q<s.size
  . have hz:=zt q s.size
    rw[zP Hf] at hP;go_wp2_with (go_at_call 99;refine (eK 2 q _).mono ?_;rintro e w' ⟨rfl,rfl⟩);have gn:=aB w4 w.t 0 (Δ (fU t) x) _ _ _ TN;have Jg:=(aD w4 w.z (Δ (fU t) x) (w.t+1) zs).trans qu;have KO:Below w.t w4 (ς w4 w.z (Δ (fU t) x)):=Below.setCell (zBr w.t w4) (p:=(w.z:Addr)) bR _;have Ia:w.heap.size+1+1<w4.heap.size:=zLd i9 Vp.size
    have:(ς w4 w.z (Δ (fU t) x)).heap.size=w4.heap.size:=zs
    generalize w4.setCell w.z (Δ (fU t) x)=w6 at*;refine zzBC ?_;refine (zb9 w.t (w.t+1) (Δ (fU t) x) .nilIface 2 q w6 (bF w6 _ 0 _ _ _ gn) (bF w6 _ 0 _ _ _ Jg) (bN w6 _ 0 _ _ gn) (bN w6 _ 0 _ _ Jg) zo).mono ?_;rintro r' u' w5 ⟨rfl,rfl,Xz⟩;obtain⟨Dp,Ct⟩:=zc1 w6 w.t (w.t+1) 2 q _ _ gn Jg zo;rw[<-Xz] at Dp Ct
    have gy:=bF w5 _ 0 _ _ _ Dp.1;have Qn:=bF w5 _ 0 _ _ _ Dp.2.1;simp only[zLa] at gy Qn;simp[Leaves,settle,results,results61,go_sem,gy,Qn];refine⟨?_,?_⟩
    . unfold PRes
      rw[hP];exact⟨_,rfl,Dp.2.2,zo⟩
    exact ZK.trans ((xG Vp zo zo).trans (KO.trans (Ct w.t bR zo)))
  rw[zN Hf] at hP
  have hz:=zn q s.size
  go_wp2_with fail;have Ia:w.heap.size+1+1<w4.heap.size:=zLd i9 Vp.size;have gy:=aB _ w.t 0 (Δ (fU t) x) _ _ _ (aB w4 w.t 0 (Δ (fU t) x) _ _ _ TN);have Qn:=((aD (ς w4 w.z (Δ (fU t) x)) w.z (Δ (fU t) x) (w.t+1) zs).trans (aD w4 w.z (Δ (fU t) x) (w.t+1) zs)).trans qu
  have Eu:=(aD (ς (ς w4 ⟨w.heap.size,0,none⟩ (Δ (fU t) x)) ⟨w.heap.size,0,none⟩ (Δ (fU t) x)) ⟨w.heap.size+1,0,none⟩ .nilIface w.heap.size zs).trans gy;have QT:=aB _ (w.heap.size+1) 0 .nilIface _ _ _ Qn;have Ph:∀ g,w3.heap.size<=g->(ς (ς (ς w4 ⟨w.heap.size,0,none⟩ (Δ (fU t) x)) ⟨w.heap.size,0,none⟩ (Δ (fU t) x)) ⟨w.heap.size+1,0,none⟩ .nilIface).e w4 g:=by
   intro g hg;rw[aD _ _ _ _ zg,aD _ _ _ _ zg,aD _ _ _ _ zg]
  have KO:Below w.t w4 (ς (ς (ς w4 w.z (Δ (fU t) x)) w.z (Δ (fU t) x)) ⟨w.t+1,0,none⟩ .nilIface):=
   (((zBr w.t w4).setCell (p:=(w.z:Addr)) bR _).setCell (p:=(w.z:Addr)) bR _).setCell (p:=(⟨w.t+1,0,none⟩:Addr)) (Nat.le_succ _) _
  generalize (ς (ς w4 w.z (Δ (fU t) x)) w.z (Δ (fU t) x)).setCell ⟨w.heap.size+1,0,none⟩ .nilIface=w6 at*;refine zzBC ?_;refine (zin w.z ⟨w.t+1,0,none⟩ w6).mono ?_;rintro r' u' w5 ⟨rfl,rfl,rfl⟩;have ca5:=bF w5 _ 0 _ _ _ Eu;have cb5:=bF w5 _ 0 _ _ _ QT;simp at ca5 cb5;simp[Leaves,settle,results,results61,go_sem,ca5,cb5]
  refine⟨?_,?_⟩
  . unfold PRes
    rw[hP];exact⟨_,rfl,jt.ext (λg hg=>by unfold Fr at*;omega) (λg hg _=>Ph g zo)⟩
  exact ZK.trans ((xG Vp zo zo).trans KO)
