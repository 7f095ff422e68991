/- Part of a proof. No condition. -/
import Derived.Deep.CutRange
import Derived.Test.YtghpmhllpaheiaaGreatDoorF13
set_option linter.unusedVariables false
set_option linter.unusedSimpArgs false
set_option maxRecDepth 100000
set_option maxHeartbeats 4000000
namespace Go.Proofs.YtghpmhllpaheiaaGreatDoor
open Go.RowKit Go.Lib
variable {bp W BF p q:Nat} {s:ByteArray} {t:aJ} {v:Value} {w wr w':World}
structure TM (bp:Nat) (s:ByteArray) (W:Nat) (t:aJ) (v:Value) (BF p:Nat) (w:World) (q:Nat) (wr:World):Prop where
 ps:PS bp s q wr
 grown:w.grownBy wr (some bp)
 tree:aX (Fr W) wr t v
 bf:wr.heap[BF]?=some (.cells #[.int .i64 p] 3 (0,0))
 bw:bp<W
 ww:W<=w.heap.size
 fb:w.heap.size<=BF
theorem TM.below (h:TM bp s W t v BF p w q wr) (hb:Below wr.heap.size wr w'):TM bp s W t v BF p w q w':=
 ⟨h.ps.below hb,aD h.grown (aF hb _),h.tree.below hb,xX h.bf hb,h.bw,h.ww,h.fb⟩
theorem TM.next {q':Nat} (h:TM bp s W t v BF p w q wr) (hp:PS bp s q' w') (hg:wr.grownBy w' (some bp)):TM bp s W t v BF p w q' w':=
 ⟨hp,aD h.grown hg,h.tree.grown h.bw hg,kU h.bf hg (by have:=h.bw;have:=h.ww;have:=h.fb;omega),h.bw,h.ww,h.fb⟩
theorem TM.drewN (h:TM bp s W t v BF p w q wr) (n:Nat):TM bp s W t v BF p w q (wr.drewN n):=
 ⟨h.ps.drewN n,bH h.grown n,h.tree.below (jM (zBr _ wr) n),h.bf,h.bw,h.ww,h.fb⟩
def kT (s:ByteArray) (p q lo:Nat):Except jU (Int×Nat):=
 if pO s q 44 then (if decide (q+1<s.size)&& !decide (cE s (q+1)=125) then (dX s (q+1) p).map (λx=>((x.1:Int),x.2)) else .ok (-1,q+1)) else .ok ((lo:Int),q)
theorem vX (s:ByteArray) (p:Nat) (t:aJ):lE s p t=
 match dX s (p+1) p with
 | .error e=>.error e
 | .ok (lo,q)=>
  match kT s p q lo with
  | .error e=>.error e
  | .ok (hi,q2)=>
   if pO s q2 125=false\/8<lo\/8<hi\/(0<=hi/\hi<lo)\/bT t=0 then .error (4,p)
   else if hi<0 then
    if lo=0 then .ok (.rep t 0 false,q2+1) else .ok (.row (List.replicate (lo-1) t++[.rep t 1 false]),q2+1)
   else .ok (.row (List.replicate lo t++List.replicate (hi.toNat-lo) (.rep t 0 true)),q2+1):=rfl
theorem pl_call (t:aJ) (x:Value) (S:Nat->Prop) (w:World) (h:aX S w t (.iface (eP t) x)):Calls Tryz.prog (plF t) #[x] w λr w'=>r=.returned (.int .i64 (bT t))/\Below w.heap.size w w':=by
 obtain⟨y,e,hc⟩:=iS t _ S w h;cases e;exact hc
theorem rX {k n:Nat} (h:dX s p k=.ok (n,q)):n<=99/\p<q/\q<=s.size:=by
 unfold dX at h;split at h
 . next h1=>
   have a1:=zdO h1;split at h
   . next h2=>
     have a2:=zdO h2;split at h
     . cases h
     injection h with h;cases h;omega
   injection h with h;cases h;omega
 cases h
theorem times_any (bp:Nat) (s:ByteArray) (p W:Nat) (w:World) (t:aJ) (v:Value) (h:PS bp s p w) (qz:p+1<=s.size) (hs:s.size<=60) (x7:bp<W) (hW:W<=w.heap.size) (ht:aX (Fr W) w t v):
 Calls Tryz.prog 140 #[.pointer (some ⟨bp,0,none⟩),v] w (Out bp s w (λt v w'=>aX (Fr W) w' t v) (lE s p t)):=by
 obtain⟨x,rfl,_⟩:=iS t v _ w ht;obtain⟨c0,c1,f1⟩:=h.cells;have Ah:zH (TM bp s W t (.iface (eP t) x) w.heap.size p w (p+1) ((w.setCell ⟨bp,1,none⟩ (.int .i64 ((p:Int)+1))).alloc (.cells #[.int .i64 p] 3))):=by
  have hg:=eO w bp 1 (.int .i64 ((p:Int)+1));have VQ:(w.setCell ⟨bp,1,none⟩ (.int .i64 ((p:Int)+1))).heap.size=w.heap.size:=by simp
  have hb:=(zBr _ (w.setCell ⟨bp,1,none⟩ (.int .i64 ((p:Int)+1)))).alloc (zR _) (.cells #[.int .i64 p] 3);exact zh ⟨(h.inc qz).below hb,aD hg (aF hb _),(ht.grown x7 hg).below hb,by rw[aN,zP VQ.symm],x7,hW,zR _⟩
 have R3:∀ e,dX s (p+1) p=.error e->lE s p t=.error e:=λe he=>by rw[vX,he]
 have HX:=zh R3;have R4:∀ lo q,dX s (p+1) p=.ok (lo,q)->lE s p t=match kT s p q lo with
  | .error e=>.error e
  | .ok (hi,q2)=>
   if pO s q2 125=false\/8<lo\/8<hi\/(0<=hi/\hi<lo)\/bT t=0 then .error (4,p)
   else if hi<0 then
    if lo=0 then .ok (.rep t 0 false,q2+1) else .ok (.row (List.replicate (lo-1) t++[.rep t 1 false]),q2+1)
   else .ok (.row (List.replicate lo t++List.replicate (hi.toNat-lo) (.rep t 0 true)),q2+1):=λlo q he=>by rw[vX,he]
 have HY:=zh R4;have Tn:(p:Int)+1<=1000:=by omega
 have Hf:=h.lt;clear h ht R3 R4;go_enter Tryz.func140,Tryz.ntmps140;go_wp2_with (fail);clear c0 c1 f1;generalize (w.setCell ⟨bp,1,none⟩ (.int .i64 ((p:Int)+1))).alloc (.cells #[.int .i64 p] 3)=w1 at*;generalize hBF:w.heap.size=BF at*;cases hn:dX s (p+1) p with
 | error e=>
  refine (rY bp BF s (p+1) p w1 Ah.o.ps (aB _ BF 0 _ _ _ Ah.o.bf) (by omega)).mono ?_;intro r w2 hr;rw[hn] at hr;obtain⟨rfl,qf⟩:=hr;refine⟨rfl,?_⟩;rw[HX.o e hn];exact⟨rfl,aD Ah.o.grown qf⟩
 | ok loq=>
  obtain⟨lo,q⟩:=loq;refine (rY bp BF s (p+1) p w1 Ah.o.ps (aB _ BF 0 _ _ _ Ah.o.bf) (by omega)).mono ?_;intro r w2 hr;rw[hn] at hr;obtain⟨v2,rfl,rfl,Qy,qf⟩:=hr;have fy:=zh (Ah.o.next Qy qf);have Y0:=HY.o lo q hn;have HZ:=zh Y0;obtain⟨NM,xq,XB⟩:=rX hn;clear Ah Qy qf Y0 HX HY hn;have hS:=zcr bp s q 44 w2 fy.o.ps;go_upto_if 27 with (go_at_call 164;refine hS.mono ?_;rintro e w3 ⟨rfl,yx,Q4⟩;clear hS)
  go_cut [8] from 10 (λs8 wr=>∃ (hi:Int) (q2:Nat),kT s p q lo=.ok (hi,q2)/\s8=.int .i64 hi/\TM bp s W t (.iface (eP t) x) BF p w q2 wr/\ -1<=hi/\hi<=99)
  case first=>
   cases j7:pO s q 44 with
   | false=>
    have Tx:kT s p q lo=.ok ((lo:Int),q):=by rw[kT,j7,zN (by decide)]
    rw[j7] at yx;simp only[zN (show ¬ false=true from by decide)] at yx;have ja:=fy.o.next yx Q4;go_wp2_with (fail);go_meet
    case rel=>exact⟨_,_,Tx,rfl,ja,by omega,by omega⟩
   | true=>
    rw[j7] at yx;simp only[zP] at yx;obtain⟨d0,d1,g1⟩:=yx.cells;have ja:=zh (fy.o.next yx Q4);clear fy yx Q4;generalize tx:q+1=r at*;cases hg:decide (r<s.size)&& !decide (cE s r=125) with
    | false=>
     have Tx:zH (kT s p q lo=.ok (-1,r)):=zh (by rw[kT,j7,zP rfl,tx,hg];rfl);by_cases Hf:r<s.size
     . have hz:(r:Int)<(s.size:Int):=by omega
       have hb:=fP s r Hf;have QW:((cE s r:Int) != 125)=false:=by
        simp[Hf] at hg;simp[hg]
       clear hg;go_wp2;go_quiet (fail);have j5:=zh (ja.o.drewN nq);clear ja d0 d1 g1 QW hb;generalize w3.drewN nq=w4 at*;go_wp2_with (fail);go_meet
       case rel=>exact⟨_,_,Tx.o,rfl,j5.o,by omega,by omega⟩
     . have hz:decide ((r:Int)<(s.size:Int))=false:=by simp;omega
       clear hg;go_wp2;go_quiet (fail);have j5:=zh (ja.o.drewN nq);clear ja d0 d1 g1;generalize w3.drewN nq=w4 at*;go_wp2_with (fail);go_meet
       case rel=>exact⟨_,_,Tx.o,rfl,j5.o,by omega,by omega⟩
    | true=>
     have qf:r<s.size/\¬ cE s r=125:=by simpa using hg
     have Hf:=qf.1;have hz:(r:Int)<(s.size:Int):=by omega
     have hb:=fP s r Hf;have QW:((cE s r:Int) != 125)=true:=by have:=qf.2;simp;omega
     have R0:kT s p q lo=(dX s r p).map (λx=>((x.1:Int),x.2)):=by rw[kT,j7,zP rfl,tx,hg];rfl
     have LM:=zh R0;clear hg qf R0;go_wp2;go_quiet (fail);have j5:=zh (ja.o.drewN nq);clear ja d0 d1 g1 QW hb;generalize w3.drewN nq=w4 at*;go_wp2_with (fail);cases xo:dX s r p with
     | error e=>
      refine (rY bp BF s r p _ j5.o.ps (aB _ BF 0 _ _ _ j5.o.bf) (by omega)).mono ?_;intro r w5 hr;rw[xo] at hr;obtain⟨rfl,qf⟩:=hr;refine⟨rfl,?_⟩;rw[HZ.o,LM.o,xo];exact⟨rfl,aD j5.o.grown qf⟩
     | ok loq=>
      obtain⟨n,q2⟩:=loq;refine (rY bp BF s r p _ j5.o.ps (aB _ BF 0 _ _ _ j5.o.bf) (by omega)).mono ?_;intro r w5 hr;rw[xo] at hr;obtain⟨v2,rfl,rfl,TL,TG⟩:=hr;have Q0:=zh (j5.o.next TL TG);have ZT:=(rX xo).1;have Tx:zH (kT s p q lo=.ok ((n:Int),q2)):=zh (by rw[LM.o,xo];rfl);clear j5 TL TG xo LM;go_wp2_with (fail);go_meet
      case rel=>exact⟨_,_,Tx.o,rfl,Q0.o,by omega,by omega⟩
  case rest=>
   clear fy yx Q4;obtain⟨hi,q2,je,rfl,Q0,Zn,Zo⟩:=hcut;have Tx:=zh je;have HT:=zh Q0;clear je Q0;have Y0:=HZ.o;rw[Tx.o] at Y0;simp only at Y0;clear HZ Tx;have QD:=zcr bp s q2 125 _ HT.o.ps;cases QW:pO s q2 125 with
   | false=>
    rw[QW] at QD;simp only[zN (show ¬ false=true from by decide)] at QD;rw[zP (.inl QW)] at Y0;have HX:=zh Y0;clear Y0;go_wp2_with (first|(go_at_call 164;refine QD.mono ?_;rintro e w6 ⟨rfl,PA,kv⟩;clear QD;have Ql:=zh ((HT).o.next PA kv))|(rw[iD];go_upon)|(rw[iA];go_simp)|(go_at_call 162;refine (oG BF p _ (by exact aB _ BF 0 _ _ _ Ql.o.bf)).mono ?_;rintro e w7 ⟨rfl,rfl⟩))
    all_goals
     refine⟨rfl,?_⟩;rw[HX.o];exact⟨rfl,Ql.o.grown⟩
   | true=>
    rw[QW] at QD;simp only[zP] at QD;by_cases b1:8<lo
    . rw[zP (.inr (.inl b1))] at Y0
      have HX:=zh Y0;clear Y0;go_wp2_with (first|(go_at_call 164;refine QD.mono ?_;rintro e w6 ⟨rfl,PA,kv⟩;clear QD;have Ql:=zh ((HT).o.next PA kv))|(rw[iD];go_upon)|(rw[iA];go_simp)|(go_at_call 162;refine (oG BF p _ (by exact aB _ BF 0 _ _ _ Ql.o.bf)).mono ?_;rintro e w7 ⟨rfl,rfl⟩))
      all_goals
       refine⟨rfl,?_⟩;rw[HX.o];exact⟨rfl,Ql.o.grown⟩
    by_cases b2:(8:Int)<hi
    . rw[zP (.inr (.inr (.inl b2)))] at Y0
      have HX:=zh Y0;clear Y0;go_wp2_with (first|(go_at_call 164;refine QD.mono ?_;rintro e w6 ⟨rfl,PA,kv⟩;clear QD;have Ql:=zh ((HT).o.next PA kv))|(rw[iD];go_upon)|(rw[iA];go_simp)|(go_at_call 162;refine (oG BF p _ (by exact aB _ BF 0 _ _ _ Ql.o.bf)).mono ?_;rintro e w7 ⟨rfl,rfl⟩))
      all_goals
       refine⟨rfl,?_⟩;rw[HX.o];exact⟨rfl,Ql.o.grown⟩
    by_cases b3:(0:Int)<=hi/\(hi:Int)<lo
    . rw[zP (.inr (.inr (.inr (.inl b3))))] at Y0
      obtain⟨b30,b31⟩:=b3;have HX:=zh Y0;clear Y0;go_wp2_with (first|(go_at_call 164;refine QD.mono ?_;rintro e w6 ⟨rfl,PA,kv⟩;clear QD;have Ql:=zh ((HT).o.next PA kv))|(rw[iD];go_upon)|(rw[iA];go_simp)|(go_at_call 162;refine (oG BF p _ (by exact aB _ BF 0 _ _ _ Ql.o.bf)).mono ?_;rintro e w7 ⟨rfl,rfl⟩))
      all_goals
       refine⟨rfl,?_⟩;rw[HX.o];exact⟨rfl,Ql.o.grown⟩
    by_cases b4:bT t=0
    . rw[zP (.inr (.inr (.inr (.inr b4))))] at Y0
      have HX:=zh Y0;clear Y0;have Qa:(bT t==0)=true:=by simp[b4]
      go_wp2_with (first|(go_at_call 164;refine QD.mono ?_;rintro e w6 ⟨rfl,PA,kv⟩;clear QD;have Ql:=zh (HT.o.next PA kv))|(rw[iD];go_upon)|(rw[iA];go_simp)|(go_at_call 162;refine (oG BF p _ (by exact aB _ BF 0 _ _ _ p9.o.bf)).mono ?_;rintro e w8 ⟨rfl,rfl⟩)|(refine (pl_call t x _ _ (by exact Ql.o.tree)).mono ?_;rintro e w7 ⟨rfl,XP⟩;have p9:=zh (Ql.o.below XP)))
      all_goals
       refine⟨rfl,?_⟩;rw[HX.o];exact⟨rfl,p9.o.grown⟩
    have Qa:(bT t==0)=false:=by simp[b4]
    rw[zN (by rintro (h|h|h|h|h)<;>first|exact b1 h|exact b2 h|exact b3 h|exact b4 h|exact absurd (QW.symm.trans h) (by decide))] at Y0;have HX:=zh Y0;clear Y0 QW b4
    rcases Int.lt_or_le hi 0 with NQ|NQ
    all_goals go_wp2_with (first|(go_at_call 164;refine QD.mono ?_;rintro e w6 ⟨rfl,PA,kv⟩;clear QD;have Ql:=zh (HT.o.next PA kv))|(rw[iD];go_upon)|(rw[iA];go_simp)|(refine (pl_call t x _ _ (by exact Ql.o.tree)).mono ?_;rintro e w7 ⟨rfl,XP⟩;have p9:=zh (Ql.o.below XP)))
    all_goals
     have Ty:=zh p9.o.ps;have CD:=zh p9.o.grown;have KJ:=zh p9.o.tree;clear p9 Ql HT XP PA kv;clear Qa;go_loopw [9,81] (λo i wr=>∃ k:Nat,k<=lo/\i=.int .i64 k/\PS bp s (q2+1) wr/\w.grownBy wr (some bp)/\RK BF W (List.replicate k t) (List.replicate k (.iface (eP t) x)) o wr/\aX (λg=>W<=g/\o.ownBlock≠some g) wr t (.iface (eP t) x)) (λ_ i _=>lo-(RowKit.intOf i).toNat)
     case atStart=>exact⟨0,by omega,rfl,Ty.o,CD.o,RK.nil _ _ _,KJ.o.weak λg hg _=>⟨hg,by simp[Value.ownBlock]⟩⟩
     case round=>
      obtain⟨k,hk,rfl,Qu,QJ,PE,VY⟩:=hrel;have jw:=zh Qu;have xg:=zh QJ;have py:=zh PE;have TC:=zh VY;have Hg:(List.replicate k t).length=k:=List.length_replicate;by_cases UK:k<lo
      . have SJ:(k:Int)<(lo:Int):=by omega
        clear Qu QJ PE VY;go_wp2_with (at_builtin;refine dI rfl zb3 rfl (by exact (py.o.alloc _).row) [Value.iface (eP t) x] (by omega) ?_;intro v' w' Qw Qp Yi);have Jb:=(zBr _ wr).alloc (zR _) (.cells #[Value.iface (eP t) x] 138);have Tr:BF<=(wr.alloc (.cells #[Value.iface (eP t) x] 138)).heap.size:=by have:=xg.o.size;simp;omega
        obtain⟨n1,n2⟩:=(py.o.alloc (.cells #[Value.iface (eP t) x] 138)).append Tr (TC.o.below Jb) Qw Qp Yi;have cx:=(jw.o.below Jb).apart Qp (λg hg=>by have:=py.o.fresh g hg;omega);have YD:=mW Qp (λg hg=>by have:=py.o.fresh g hg;omega) (by omega) (aD xg.o (aF Jb _));go_roundw
        case rel=>
         refine⟨k+1,by omega,by go_num,cx,YD,?_,n2⟩;rw[List.replicate_succ',List.replicate_succ'];exact n1
        case measure=>simp[RowKit.intOf];omega
      have yi:k=lo:=by omega
      subst yi;clear Qu QJ PE VY;have Y0:=HX.o;by_cases Py:hi<0
      . try (exfalso;omega)
        all_goals
         clear NQ;rw[zP Py] at Y0;by_cases XU:k=0
         . rw[zP XU] at Y0
           have V9:=zh Y0;clear Y0;have SJ:((k:Int)==0)=true:=by simp[XU]
           go_wp2_with (fail);go_ret;rw[V9.o];exact⟨.iface 206 (.agg #[.iface (eP t) x,.int .i64 0,.bool false]),rfl,nF 0 false TC.o.notIn,jw.o,xg.o⟩
         rw[zN XU] at Y0
         have V9:=zh Y0;clear Y0;have SJ:((k:Int)==0)=false:=by simp[XU]
         have Xv:=py.o.row;rw[Hg] at Xv;have yv:=bD Xv
         rcases yv with⟨_,h⟩|⟨g,cap,rfl,Xp,En⟩
         . exact absurd h XU
         obtain⟨k',rfl⟩:∃ k',k=k'+1:=⟨k-1,by omega⟩
         have El:=Xv.frozenAt k';have yp:=aE Xv k' (.iface (eP t) x) (by simp[List.getElem?_replicate]);have fd:=zh Xv;clear Xv;go_wp2_with (fail);go_ret;have UD:=py.o.fresh g rfl;obtain⟨r1,r2⟩:=fd.o.stored k' (.iface 206 (.agg #[.iface (eP t) x,.int .i64 1,.bool false]));have Yv:=TC.o.ext (λ_ h=>h) (w':=wr.setCell ⟨g,k',none⟩ (.iface 206 (.agg #[.iface (eP t) x,.int .i64 1,.bool false]))) (λb hb _=>aG _ _ _ _ (λe=>hb.2 (by rw[e];rfl))) _ _;rw[set_last] at r1;rw[V9.o]
         refine⟨.iface 202 (.slice (some ⟨g,0,none⟩) (k'+1) cap),rfl,yR (by simpa using r1) (λb hb=>by cases hb;show W<=g;omega) ?_,jw.o.apart r2 (λb hb=>by cases hb;omega),mW r2 (λb hb=>by cases hb;omega) (by have:=xg.o.size;omega) xg.o⟩;rw[Nat.add_sub_cancel];exact (bS.rep Yv.notIn k').snoc (nF 1 false Yv.notIn)
      try (exfalso;omega)
      all_goals
       clear NQ;rw[zN Py] at Y0;have V9:=zh Y0;clear Y0;obtain⟨m,hm⟩:∃ m:Nat,(m:Int)=hi-(k:Int):=⟨(hi-k).toNat,by omega⟩;have TJ:hi.toNat-k=m:=by omega
       rw[TJ] at V9;go_wp2_with (fail);go_loopw [9,91] (λo i wr=>∃ j:Nat,j<=m/\i=.int .i64 j/\PS bp s (q2+1) wr/\w.grownBy wr (some bp)/\RK BF W (List.replicate k t++List.replicate j (.rep t 0 true)) (List.replicate k (.iface (eP t) x)++List.replicate j (.iface 206 (.agg #[.iface (eP t) x,.int .i64 0,.bool true]))) o wr/\aX (λg=>W<=g/\o.ownBlock≠some g) wr t (.iface (eP t) x)) (λ_ i _=>m-(RowKit.intOf i).toNat)
       case atStart=>exact⟨0,by omega,rfl,jw.o,xg.o,by simpa using py.o,TC.o⟩
       case round=>
        obtain⟨j,hj,rfl,Qu,QJ,PE,VY⟩:=hrel;generalize wr=wr_1 at*;have Xj:=zh Qu;have Y5:=zh QJ;have p6:=zh PE;have Mb:=zh VY;have A7:(List.replicate k t++List.replicate j (aJ.rep t 0 true)).length=k+j:=by simp
        by_cases ZF:j<m
        . have SH:(j:Int)<hi-(k:Int):=by omega
          clear Qu QJ PE VY;go_wp2_with (at_builtin;refine dI rfl zb3 rfl (by exact (p6.o.alloc _).row) [Value.iface 206 (.agg #[.iface (eP t) x,.int .i64 0,.bool true])] (by omega) ?_;intro v' w' Qw Qp Yi);have Jb:=(zBr _ wr_1).alloc (zR _) (.cells #[Value.iface 206 (.agg #[.iface (eP t) x,.int .i64 0,.bool true])] 138);have Tr:BF<=(wr_1.alloc (.cells #[Value.iface 206 (.agg #[.iface (eP t) x,.int .i64 0,.bool true])] 138)).heap.size:=by have:=Y5.o.size;simp;omega
          obtain⟨n1,n2⟩:=(p6.o.alloc (.cells #[Value.iface 206 (.agg #[.iface (eP t) x,.int .i64 0,.bool true])] 138)).append Tr (nF 0 true (Mb.o.below Jb)) Qw Qp Yi;have cx:=(Xj.o.below Jb).apart Qp (λg hg=>by have:=p6.o.fresh g hg;omega);have YD:=mW Qp (λg hg=>by have:=p6.o.fresh g hg;omega) (by omega) (aD Y5.o (aF Jb _));go_roundw
          case rel=>
           refine⟨j+1,by omega,by go_num,cx,YD,?_,zbl n2⟩;rw[List.replicate_succ',List.replicate_succ',<-List.append_assoc,<-List.append_assoc];exact n1
          case measure=>simp[RowKit.intOf];omega
        have A1:j=m:=by omega
        subst A1;clear Qu QJ PE VY;go_wp2_with (fail);go_ret;rw[V9.o];exact⟨_,rfl,yR p6.o.row (λb hb=>by have:=p6.o.fresh b hb;show W<=b;omega) (p6.o.tR.weak λb hb _=>hb.1),Xj.o,Y5.o⟩
abbrev TOut (bp:Nat) (s:ByteArray) (W:Nat) (w:World) (x:Except jU (aJ×Nat)):Ending->World->Prop:=Out bp s w (λt v w'=>aX (Fr W) w' t v) x
theorem zcz (bp:Nat) (s:ByteArray) (p W:Nat) (w:World) (t:aJ) (v:Value) (h:PS bp s p w) (hs:s.size<=60) (x7:bp<W) (hW:W<=w.heap.size) (ht:aX (Fr W) w t v):
 Calls Tryz.prog 112 #[.pointer (some ⟨bp,0,none⟩),v] w (TOut bp s W w (fQ s p t)):=by
 obtain⟨x,rfl,_⟩:=iS t v _ w ht;have H:=zh h;have HT:=zh ht;cases hx:cD s p with
 | error e=>
  have HC:zH (fQ s p t=.error e):=zh (by rw[fQ,hx]);have hP:=kO bp s p w e h hx;clear h hx ht;go_enter Tryz.func112,Tryz.ntmps112;go_wp2_with (first|(go_at_call 98;refine hP.mono ?_;rintro e w1 ⟨rfl,Hk⟩));refine⟨rfl,?_⟩;rw[HC.o];exact⟨rfl,aF Hk _⟩
 | ok c=>
  have hP:=iF bp s p w c h hx;have HX:=zh hx;have hC:fQ s p t=if c=42 then .ok (.rep t 0 false,p+1) else if c=43 then .ok (.rep t 1 false,p+1) else if c=63 then .ok (.rep t 0 true,p+1) else if c=123 then lE s p t else .ok (t,p):=by rw[fQ,hx]
  clear h hx ht;by_cases h1:c=42
  . subst h1
    rw[zP rfl] at hC;have HC:=zh hC;clear hC;go_enter Tryz.func112,Tryz.ntmps112;go_wp2_with (first|(go_at_call 98;refine hP.mono ?_;rintro e w1 ⟨rfl,Hk⟩;have H1:=zh (H.o.below Hk))|(go_at_call 99;refine (kS bp s p _ 42 (p+1) H1.o (iJ HX.o (by decide) (by decide))).mono ?_;rintro e w2 ⟨rfl,QZ,qf⟩));go_ret;rw[HC.o];exact⟨.iface 206 (.agg #[.iface (eP t) x,.int .i64 0,.bool false]),rfl,nF 0 false ((HT.o.below Hk).grown x7 qf),QZ,aD (aF Hk _) qf⟩
  by_cases h2:c=43
  . subst h2
    rw[zN h1,zP rfl] at hC;have HC:=zh hC;clear hC;go_enter Tryz.func112,Tryz.ntmps112;go_wp2_with (first|(go_at_call 98;refine hP.mono ?_;rintro e w1 ⟨rfl,Hk⟩;have H1:=zh (H.o.below Hk))|(go_at_call 99;refine (kS bp s p _ 43 (p+1) H1.o (iJ HX.o (by decide) (by decide))).mono ?_;rintro e w2 ⟨rfl,QZ,qf⟩));go_ret;rw[HC.o];exact⟨.iface 206 (.agg #[.iface (eP t) x,.int .i64 1,.bool false]),rfl,nF 1 false ((HT.o.below Hk).grown x7 qf),QZ,aD (aF Hk _) qf⟩
  by_cases h3:c=63
  . subst h3
    rw[zN h1,zN h2,zP rfl] at hC;have HC:=zh hC;clear hC;go_enter Tryz.func112,Tryz.ntmps112;go_wp2_with (first|(go_at_call 98;refine hP.mono ?_;rintro e w1 ⟨rfl,Hk⟩;have H1:=zh (H.o.below Hk))|(go_at_call 99;refine (kS bp s p _ 63 (p+1) H1.o (iJ HX.o (by decide) (by decide))).mono ?_;rintro e w2 ⟨rfl,QZ,qf⟩));go_ret;rw[HC.o];exact⟨.iface 206 (.agg #[.iface (eP t) x,.int .i64 0,.bool true]),rfl,nF 0 true ((HT.o.below Hk).grown x7 qf),QZ,aD (aF Hk _) qf⟩
  by_cases h4:c=123
  . subst h4
    rw[zN h1,zN h2,zN h3,zP rfl] at hC;have HC:=zh hC;have qz:p+1<=s.size:=((zau HX.o).2.2 (by decide)).1;clear hC;go_enter Tryz.func112,Tryz.ntmps112;go_wp2_with (first|(go_at_call 98;refine hP.mono ?_;rintro e w1 ⟨rfl,Hk⟩;have H1:=zh (H.o.below Hk)));refine (times_any bp s p W _ t _ H1.o qz hs x7 (zT hW Hk.size) (HT.o.below Hk)).mono ?_;intro r w2 hr;cases QP:lE s p t with
    | error e=>
     rw[QP] at hr;obtain⟨rfl,qf⟩:=hr;refine⟨rfl,?_⟩;show TOut bp s W w _ _ _;rw[HC.o,QP];exact⟨rfl,aD (aF Hk _) qf⟩
    | ok cq=>
     rw[QP] at hr;obtain⟨v2,rfl,VY,Qy,qf⟩:=hr;go_wp2_with (fail);go_ret;rw[HC.o,QP];exact⟨_,rfl,VY,Qy,aD (aF Hk _) qf⟩
  rw[zN h1,zN h2,zN h3,zN h4] at hC
  have HC:=zh hC;have e1:(c==42)=false:=by simp[h1]
  have e2:(c==43)=false:=by simp[h2]
  have e3:(c==63)=false:=by simp[h3]
  have e4:(c==123)=false:=by simp[h4]
  clear hC;go_enter Tryz.func112,Tryz.ntmps112;go_wp2_with (first|(go_at_call 98;refine hP.mono ?_;rintro e w1 ⟨rfl,Hk⟩;have H1:=zh (H.o.below Hk)));go_ret;rw[HC.o];exact⟨_,rfl,HT.o.below Hk,H1.o,aF Hk _⟩
def RowC (f:Nat):Prop:=∀ (bp:Nat) (s:ByteArray) (p deep:Nat) (w:World),PS bp s p w->s.size<=60->deep<=8->iV s f deep p []≠ .error (0,0)->
 Calls Tryz.prog 97 #[.pointer (some ⟨bp,0,none⟩),.int .i64 deep] w (TOut bp s w.heap.size w (iV s f deep p []))
def AtomC (f:Nat):Prop:=∀ (bp:Nat) (s:ByteArray) (p deep:Nat) (w:World),PS bp s p w->s.size<=60->deep<=8->iX s f deep p≠ .error (0,0)->
 Calls Tryz.prog 113 #[.pointer (some ⟨bp,0,none⟩),.int .i64 deep] w (TOut bp s w.heap.size w (iX s f deep p))
def AltC (f:Nat):Prop:=∀ (bp:Nat) (s:ByteArray) (p deep:Nat) (w:World),PS bp s p w->s.size<=60->deep<=8->kH s f deep p≠ .error (0,0)->
 Calls Tryz.prog 79 #[.pointer (some ⟨bp,0,none⟩),.int .i64 deep] w (TOut bp s w.heap.size w (kH s f deep p))
theorem qT (s:ByteArray) (f deep p:Nat) (l:List aJ):iV s (f+1) deep p l=
 match cD s p with
 | .error e=>.error e
 | .ok c=>
  if c= -1\/c=124\/c=41 then .ok (.row l,p)
  else
   match iX s f deep p with
   | .error e=>.error e
   | .ok (t,q)=>
    match fQ s q t with
    | .error e=>.error e
    | .ok (u,q2)=>iV s f deep q2 (l++[u]):=by rw[iV];rfl
theorem row_any (f:Nat) (hf:f<=1000) (ih:∀ g,g<f->AtomC g):RowC f:=by
 intro bp s p deep w h hs X5 Hv;have H:=zh h;have IH:=zh ih;have x7:=h.lt;generalize hR:iV s f deep p []=R at*;have QB:=zh Hv;clear h ih Hv;go_enter Tryz.func97,Tryz.ntmps97;go_wp2;go_loopg [5] f (λgh o wr=>∃ (l:List aJ) (vs:List Value) (q g:Nat),g=gh/\l.length+g=f/\R=iV s g deep q l/\RK w.heap.size w.heap.size l vs o wr/\PS bp s q wr/\w.grownBy wr (some bp))
 case atStart=>exact⟨[],[],p,f,rfl,by simp,hR.symm,RK.nil _ _ _,H.o,eK _ _⟩
 case round=>
  obtain⟨l,vs,q,g,UE,Dd,Ht,PE,Qu,QJ⟩:=hrel;have py:=zh PE;have jw:=zh Qu;have xg:=zh QJ;have CF:=zh UE;have Qc:=QJ.size;clear PE QJ UE;cases g with
  | zero=>
   rw[iV] at Ht;exact absurd Ht QB.o
  | succ g=>
   rw[qT] at Ht;cases hx:cD s q with
   | error e=>
    have HC:zH (R=.error e):=zh (by rw[Ht,hx]);have hP:=kO bp s q _ e Qu hx;clear Ht hx Qu;go_wp2_with (first|(go_at_call 98;refine hP.mono ?_;rintro e w1 ⟨rfl,Hk⟩));refine⟨rfl,?_⟩;rw[HC.o];exact⟨rfl,aD xg.o (aF Hk _)⟩
   | ok c=>
    have hP:=iF bp s q _ c Qu hx;have HX:=zh hx;rw[hx] at Ht;simp only at Ht;clear hx Qu;by_cases kq:c= -1\/c=124\/c=41
    . rw[zP kq] at Ht
      have HC:=zh Ht;clear Ht
      rcases kq with rfl|rfl|rfl
      all_goals
       go_wp2_with (first|(go_at_call 98;refine hP.mono ?_;rintro e w1 ⟨rfl,Hk⟩));go_ret;rw[HC.o];have UW:=py.o.below Hk;exact⟨_,rfl,yR UW.row UW.fresh (UW.tR.weak λb hb _=>hb.1),jw.o.below Hk,aD xg.o (aF Hk _)⟩
    rw[zN kq] at Ht
    have e1:(c== -1)=false:=by simp;omega
    have e2:(c==124)=false:=by simp;omega
    have e3:(c==41)=false:=by simp;omega
    have HL:=zh Ht;clear Ht kq;go_wp2_with (first|(go_at_call 98;refine hP.mono ?_;rintro e w1 ⟨rfl,Hk⟩));have aw:=zh (jw.o.below Hk);have E9:=zh (py.o.below Hk);have tL:=zh (aD xg.o (aF Hk (some bp)));have Pv:∀ b,Value.ownBlock u5=some b->b<w1.heap.size:=λb hb=>zLd (py.o.row.lt b hb).2 Hk.size;have ON:w.heap.size<=w1.heap.size:=zT Qc Hk.size;clear Hk jw py xg Qc hP;cases QP:iX s g deep q with
    | error e=>
     have QL:R=.error e:=by rw[HL.o,QP]
     refine (IH.o g (by omega) bp s q deep w1 aw.o hs X5 (by rw[QP,<-QL];exact QB.o)).mono ?_;intro r w2 hr;rw[QP] at hr;obtain⟨rfl,qf⟩:=hr;refine⟨rfl,?_⟩;rw[QL];exact⟨rfl,aD tL.o qf⟩
    | ok tq=>
     obtain⟨t,q1⟩:=tq;refine (IH.o g (by omega) bp s q deep w1 aw.o hs X5 (by rw[QP];exact λh=>by cases h)).mono ?_;intro r w2 hr;rw[QP] at hr;obtain⟨v,rfl,VY,Qy,qf⟩:=hr;have TC:=zh VY;have xx:=zh Qy;have PM:=zh qf;have V9:=zh QP;clear VY Qy qf QP;have F3:bp<w1.heap.size:=by omega
     go_wp2_with (fail);cases J3:fQ s q1 t with
     | error e=>
      have QL:R=.error e:=by rw[HL.o,V9.o];simp only;rw[J3]
      refine (zcz bp s q1 w1.heap.size w2 t v xx.o hs F3 PM.o.size TC.o).mono ?_;intro r w3 hr;rw[J3] at hr;obtain⟨rfl,Q4⟩:=hr;refine⟨rfl,?_⟩;rw[QL];exact⟨rfl,aD tL.o (aD PM.o Q4)⟩
     | ok uq=>
      obtain⟨u,q2⟩:=uq;have QL:R=iV s g deep q2 (l++[u]):=by rw[HL.o,V9.o];simp only;rw[J3]
      refine (zcz bp s q1 w1.heap.size w2 t v xx.o hs F3 PM.o.size TC.o).mono ?_;intro r w3 hr;rw[J3] at hr;obtain⟨v3,rfl,K5,yx,Q4⟩:=hr;obtain⟨y3,rfl,_⟩:=iS u v3 _ w3 K5;have Ud:=zh ((E9.o.grown x7 x7 PM.o).grown x7 x7 Q4);have KL:zH (aX (λb=>w.heap.size<=b/\Value.ownBlock u5≠some b) w3 u (.iface (eP u) y3)):=zh (K5.weak λb hb _=>⟨zT ON hb,λe=>by have:=Pv b e;have:w1.heap.size<=b:=hb;omega⟩);have yq:=zh yx
      have Pq:=aD tL.o (aD PM.o Q4);have ve:=zh Pq;have QV:=zh QL;have Z9:=Pq.size;clear K5 yx Q4 Pq QL J3 TC xx PM E9 tL aw;go_wp2_with (at_builtin;refine dI rfl zb3 rfl (by exact (Ud.o.alloc _).row) [Value.iface (eP u) y3] (by omega) ?_;intro v' w' Qw Qp Yi);have Jb:=(zBr _ w3).alloc (zR _) (.cells #[Value.iface (eP u) y3] 138);have Tr:w.heap.size<=(w3.alloc (.cells #[Value.iface (eP u) y3] 138)).heap.size:=by simp;omega
      obtain⟨n1,n2⟩:=(Ud.o.alloc (.cells #[Value.iface (eP u) y3] 138)).append Tr (KL.o.below Jb) Qw Qp Yi;have cx:=(yq.o.below Jb).apart Qp (λb hb=>by have:=Ud.o.fresh b hb;omega);have YD:=mW Qp Ud.o.fresh Tr (aD ve.o (aF Jb _));go_roundg g
      case rel=>exact⟨l++[u],_,q2,g,rfl,by simp;omega,QV.o,n1,cx,YD⟩
      all_goals (have:=CF.o;omega)
theorem altP_succ (s:ByteArray) (f deep p:Nat):kH s (f+1) deep p=
 match iV s f deep p [] with
 | .error e=>.error e
 | .ok (t,q)=>eI s f deep q t:=by rw[kH];rfl
theorem zcA (s:ByteArray) (f deep p:Nat) (t:aJ):eI s (f+1) deep p t=
 match cD s p with
 | .error e=>.error e
 | .ok c=>
  if c=124 then
   match iV s f deep (p+1) [] with
   | .error e=>.error e
   | .ok (u,q)=>eI s f deep q (.either t u)
  else .ok (t,p):=by rw[eI];rfl
theorem TOut.weak {W':Nat} {x:Except jU (aJ×Nat)} {r:Ending} (h:TOut bp s W w x r w') (hW:W'<=W):TOut bp s W' w x r w':=by
 cases x with
 | error e=>exact h
 | ok tq=>
  obtain⟨v,h1,h2,h3,h4⟩:=h;exact⟨v,h1,h2.weak λg hg _=>zT hW hg,h3,h4⟩
theorem alt_any (f:Nat) (ih:∀ g,g<f->RowC g):AltC f:=by
 intro bp s p deep w h hs X5 Hv;cases f with
 | zero=>rw[kH] at Hv;exact absurd rfl Hv
 | succ f=>
 rw[altP_succ] at Hv ⊢;have H:=zh h;have IH:=zh ih;have x7:=h.lt;clear h ih;cases hx:iV s f deep p [] with
 | error e=>
  rw[hx] at Hv;simp only at Hv;have hP:=IH.o f (by omega) bp s p deep w H.o hs X5 (by rw[hx];exact Hv);rw[hx] at hP;clear Hv hx;go_enter Tryz.func79,Tryz.ntmps79;go_wp2_with (first|(go_at_call 97;refine hP.mono ?_;rintro r w1 ⟨rfl,Qv⟩));exact⟨rfl,rfl,Qv⟩
 | ok tq=>
  obtain⟨t,q⟩:=tq;rw[hx] at Hv;simp only at Hv ⊢;generalize hR:eI s f deep q t=R at*;have QB:=zh Hv;have HR:=zh hR;have hP:=IH.o f (by omega) bp s p deep w H.o hs X5 (by rw[hx];exact λh=>by cases h);rw[hx] at hP;clear Hv hx hR;go_enter Tryz.func79,Tryz.ntmps79;go_wp2_with (first|(go_at_call 97;refine hP.mono ?_;rintro r w1 ⟨v1,rfl,i5,Tn,Qq⟩));have Ma:=zh i5;have aw:=zh Tn;have tL:=zh Qq;clear i5 Tn Qq hP
  go_loopg [5] f (λgh o wr=>∃ (t:aJ) (q g:Nat),g=gh/\g<=f/\R=eI s g deep q t/\aX (Fr w.heap.size) wr t o/\PS bp s q wr/\w.grownBy wr (some bp))
  case atStart=>exact⟨t,q,f,rfl,zR _,HR.o.symm,Ma.o,aw.o,tL.o⟩
  case round=>
   obtain⟨t,q,g,UE,Lb,Ht,VY,Qu,QJ⟩:=hrel;have TC:=zh VY;have jw:=zh Qu;have xg:=zh QJ;have CF:=zh UE;clear VY QJ UE;cases g with
   | zero=>
    rw[eI] at Ht;exact absurd Ht QB.o
   | succ g=>
    rw[zcA] at Ht;cases hx:cD s q with
    | error e=>
     have HC:zH (R=.error e):=zh (by rw[Ht,hx]);have hP:=kO bp s q _ e Qu hx;clear Ht hx Qu;go_wp2_with (first|(go_at_call 98;refine hP.mono ?_;rintro e w1 ⟨rfl,Hk⟩));refine⟨rfl,?_⟩;rw[HC.o];exact⟨rfl,aD xg.o (aF Hk _)⟩
    | ok c=>
     have hP:=iF bp s q _ c Qu hx;have HX:=zh hx;rw[hx] at Ht;simp only at Ht;clear hx Qu;by_cases Xm:c=124
     . subst Xm
       rw[zP rfl] at Ht;have HL:=zh Ht;clear Ht;go_wp2_with (first|(go_at_call 98;refine hP.mono ?_;rintro e w2 ⟨rfl,Hr⟩;have Xj:=zh (jw.o.below Hr))|(go_at_call 99;refine (kS bp s q _ 124 (q+1) Xj.o (iJ HX.o (by decide) (by decide))).mono ?_;rintro e w3 ⟨rfl,Jw,Q4⟩));have KL:=zh ((TC.o.below Hr).grown x7 Q4);have Vo:=zh Jw;have ve:=zh (aD xg.o (aD (aF Hr (some bp)) Q4));clear Hr Jw Q4 Xj TC jw xg hP
       cases QP:iV s g deep (q+1) [] with
       | error e=>
        have QL:R=.error e:=by rw[HL.o,QP]
        refine (IH.o g (by omega) bp s (q+1) deep w3 Vo.o hs X5 (by rw[QP,<-QL];exact QB.o)).mono ?_;intro r w4 hr;rw[QP] at hr;obtain⟨rfl,Ve⟩:=hr;refine⟨rfl,?_⟩;rw[QL];exact⟨rfl,aD ve.o Ve⟩
       | ok uq=>
        obtain⟨u,q2⟩:=uq;have QL:R=eI s g deep q2 (.either t u):=by rw[HL.o,QP]
        refine (IH.o g (by omega) bp s (q+1) deep w3 Vo.o hs X5 (by rw[QP];exact λh=>by cases h)).mono ?_;intro r w4 hr;rw[QP] at hr;obtain⟨v4,rfl,DH,UU,Ve⟩:=hr;have ws:=zcv (KL.o.grown x7 Ve) (DH.weak (T:=Fr w.heap.size) λb hb _=>zT ve.o.size hb);obtain⟨x0,e0,_⟩:=iS t _ _ w3 KL.o;obtain⟨x4,rfl,_⟩:=iS u v4 _ w4 DH;subst e0;have IM:=zh ws;have me:=zh UU;have LL:=zh (aD ve.o Ve);have QV:=zh QL
        clear ws UU Ve DH QL QP KL Vo ve;go_wp2_with (fail);go_roundg g
        case rel=>exact⟨.either t u,q2,g,rfl,by omega,QV.o,IM.o,me.o,LL.o⟩
        all_goals (have:=CF.o;omega)
     rw[zN Xm] at Ht
     have e1:(c==124)=false:=by simp[Xm]
     have HL:=zh Ht;clear Ht;go_wp2_with (first|(go_at_call 98;refine hP.mono ?_;rintro e w2 ⟨rfl,Hr⟩));go_ret;rw[HL.o];exact⟨_,rfl,TC.o.below Hr,jw.o.below Hr,aD xg.o (aF Hr _)⟩
theorem zfj (s:ByteArray) (f deep p:Nat):iX s (f+1) deep p=
 match cD s p with
 | .error e=>.error e
 | .ok c=>
  if c=40 then
   if deep=8 then .error (5,p) else
    match kH s f (deep+1) (p+1) with
    | .error e=>.error e
    | .ok (t,q)=>
     match cD s q with
     | .error e=>.error e
     | .ok d=>if d=41 then .ok (t,q+1) else .error (2,q)
  else if c=91 then
   match dH s (p+1) p with
   | .error e=>.error e
   | .ok (l,q)=>.ok (.cL l,q)
  else if c=46 then .ok (.cL [(0,9),(11,1114111)],p+1)
  else if c=93\/c=123\/c=125\/c=42\/c=43\/c=63 then .error (2,p)
  else
   match bP s p with
   | .error e=>.error e
   | .ok (x,q)=>.ok (.cL [(x,x)],q):=by rw[iX];rfl
theorem zcJ (l:List (Int×Int)) (hl:0<l.length) (hlm:l.length<=1000) (b:Nat) (hb:w.heap[b]?=some (.cells (flat l).toArray 210 (0,0))):fN w (.slice (some ⟨b,0,none⟩) l.length l.length) l:=
 ⟨zb4 l,.inr ⟨b,l.length,_,rfl,zZ _,hb,zR _,by unfold maxLen;omega,by simp[zb4],by simp[<-zb4]⟩⟩
theorem atom_any (f:Nat) (ih:∀ g,g<f->AltC g):AtomC f:=by
 intro bp s p deep w h hs X5 Hv;cases f with
 | zero=>rw[iX] at Hv;exact absurd rfl Hv
 | succ f=>
 obtain⟨d0,d1,g1⟩:=h.cells;have H:=zh h;have IH:=zh ih;have x7:=h.lt;generalize hR:iX s (f+1) deep p=R at*;rw[zfj] at hR;have QB:=zh Hv;clear ih Hv;cases hx:cD s p with
 | error e=>
  have HC:zH (R=.error e):=zh (by rw[<-hR,hx]);have hP:=kO bp s p w e h hx;clear h hx hR;go_enter Tryz.func113,Tryz.ntmps113;go_wp2_with (first|(go_at_call 98;refine hP.mono ?_;rintro e w1 ⟨rfl,Hk⟩));refine⟨rfl,?_⟩;rw[HC.o];exact⟨rfl,aF Hk _⟩
 | ok c=>
  have hP:=iF bp s p w c h hx;have HX:=zh hx;rw[hx] at hR;simp only at hR;clear h hx;by_cases tZ:c=40
  . subst tZ
    rw[zP rfl] at hR;by_cases h8:deep=8
    . rw[zP h8] at hR
      have HC:=zh hR.symm;have e8:((deep:Int)==8)=true:=by simp;omega
      clear hR;go_enter Tryz.func113,Tryz.ntmps113;go_wp2_with (first|(go_at_call 98;refine hP.mono ?_;rintro e w1 ⟨rfl,Hk⟩)|(go_at_call 80;refine (dT 5 p _).mono ?_;rintro e w' ⟨rfl,rfl⟩));refine⟨rfl,?_⟩;rw[HC.o];exact⟨rfl,aF Hk _⟩
    rw[zN h8] at hR
    have HR:=zh hR;have e8:((deep:Int)==8)=false:=by simp;omega
    have Kt:=zh (iJ HX.o (by decide) (by decide));clear hR;go_enter Tryz.func113,Tryz.ntmps113;go_wp2_with (first|(go_at_call 98;refine hP.mono ?_;rintro e w1 ⟨rfl,Hk⟩;have H1:=zh (H.o.below Hk))|(go_at_call 99;refine (kS bp s p _ 40 (p+1) H1.o Kt.o).mono ?_;rintro e w2 ⟨rfl,QZ,qf⟩));have Xj:=zh QZ;have Y5:=zh (aD (aF Hk (some bp)) qf);clear Hk QZ qf H1 hP;cases QP:kH s f (deep+1) (p+1) with
    | error e=>
     have QL:R=.error e:=by rw[<-HR.o,QP]
     refine (IH.o f (by omega) bp s (p+1) (deep+1) w2 Xj.o hs (by omega) (by rw[QP,<-QL];exact QB.o)).mono ?_;intro r w3 hr;rw[QP] at hr;obtain⟨rfl,Q4⟩:=hr;refine⟨rfl,?_⟩;rw[QL];exact⟨rfl,aD Y5.o Q4⟩
    | ok tq=>
     obtain⟨t,q⟩:=tq;refine (IH.o f (by omega) bp s (p+1) (deep+1) w2 Xj.o hs (by omega) (by rw[QP];exact λh=>by cases h)).mono ?_;intro r w3 hr;rw[QP] at hr;obtain⟨v3,rfl,K5,Jw,Q4⟩:=hr;have QL:=HR.o;rw[QP] at QL;simp only at QL;have KL:=zh (K5.weak (T:=Fr w.heap.size) λb hb _=>zT Y5.o.size hb);have Vo:=zh Jw;have ve:=zh (aD Y5.o Q4);clear K5 Jw Q4 Xj Y5 HR QP;cases J3:cD s q with
     | error e=>
      rw[J3] at QL;have QV:=zh QL;clear QL;go_wp2_with (first|(go_at_call 98;refine (kO bp s q _ e Vo.o J3).mono ?_;rintro e w4 ⟨rfl,Qa⟩));refine⟨rfl,?_⟩;rw[<-QV.o];exact⟨rfl,aD ve.o (aF Qa _)⟩
     | ok d=>
      rw[J3] at QL;simp only at QL;have Ul:=zh J3;clear J3;by_cases Nm:d=41
      . subst Nm
        rw[zP rfl] at QL;have QV:=zh QL;have OP:=zh (iJ Ul.o (by decide) (by decide));clear QL;go_wp2_with (first|(go_at_call 98;refine (iF bp s q _ 41 Vo.o Ul.o).mono ?_;rintro e w4 ⟨rfl,Qa⟩;have H4:=zh (Vo.o.below Qa))|(go_at_call 99;refine (kS bp s q _ 41 (q+1) H4.o OP.o).mono ?_;rintro e w5 ⟨rfl,Oz,TG⟩));go_ret;rw[<-QV.o];exact⟨_,rfl,(KL.o.below Qa).grown x7 TG,Oz,aD ve.o (aD (aF Qa _) TG)⟩
      rw[zN Nm] at QL
      have QV:=zh QL;have e41:(d != 41)=true:=by simp[Nm]
      clear QL;go_wp2_with (first|(go_at_call 98;refine (iF bp s q _ d Vo.o Ul.o).mono ?_;rintro e w4 ⟨rfl,Qa⟩;have H4:=zh (Vo.o.below Qa);obtain⟨k0,k1,k2⟩:=H4.o.cells)|(go_at_call 80;refine (dT 2 q _).mono ?_;rintro e w' ⟨rfl,rfl⟩));refine⟨rfl,?_⟩;rw[<-QV.o];exact⟨rfl,aD ve.o (aF Qa _)⟩
  rw[zN tZ] at hR
  have e40:(c==40)=false:=by simp[tZ]
  by_cases TF:c=91
  . subst TF
    rw[zP rfl] at hR;have HR:=zh hR;have Kt:=zh (iJ HX.o (by decide) (by decide));clear hR;go_enter Tryz.func113,Tryz.ntmps113;go_wp2_with (first|(go_at_call 98;refine hP.mono ?_;rintro e w1 ⟨rfl,Hk⟩;have H1:=zh (H.o.below Hk))|(go_at_call 99;refine (kS bp s p _ 91 (p+1) H1.o Kt.o).mono ?_;rintro e w2 ⟨rfl,QZ,qf⟩));have Xj:=zh QZ;have Y5:=zh (aD (aF Hk (some bp)) qf);clear Hk QZ qf H1 hP;refine (class_any bp s (p+1) p w2 Xj.o hs).mono ?_;intro r w3 hr
    cases QP:dH s (p+1) p with
    | error e=>
     rw[QP] at hr;obtain⟨rfl,Q4⟩:=hr;refine⟨rfl,?_⟩;rw[<-HR.o,QP];exact⟨rfl,aD Y5.o Q4⟩
    | ok lq=>
     obtain⟨l,q⟩:=lq;rw[QP] at hr;obtain⟨v3,rfl,K5,Jw,Q4⟩:=hr;have KL:=zh ((show aX (Fr w2.heap.size) w3 (.cL l) v3 from K5).weak (T:=Fr w.heap.size) λb hb _=>zT Y5.o.size hb);have Vo:=zh Jw;have ve:=zh (aD Y5.o Q4);have QL:=HR.o;rw[QP] at QL;have QV:=zh QL;clear K5 Jw Q4 HR Xj Y5 QP QL;go_wp2_with (fail);go_ret;rw[<-QV.o];exact⟨_,rfl,KL.o,Vo.o,ve.o⟩
  rw[zN TF] at hR
  have e91:(c==91)=false:=by simp[TF]
  by_cases Al:c=46
  . subst Al
    rw[zP rfl] at hR;have HR:=zh hR;have Kt:=zh (iJ HX.o (by decide) (by decide));clear hR;go_enter Tryz.func113,Tryz.ntmps113;go_wp2_with (first|(go_at_call 98;refine hP.mono ?_;rintro e w1 ⟨rfl,Hk⟩;have H1:=zh (H.o.below Hk))|(go_at_call 99;refine (kS bp s p _ 46 (p+1) H1.o Kt.o).mono ?_;rintro e w2 ⟨rfl,QZ,qf⟩));go_ret;rw[<-HR.o];have AR:=aD (aF Hk (some bp)) qf
    have Jb:=(zBr _ w2).alloc (zR _) (.cells #[.int .i32 0,.int .i32 9,.int .i32 11,.int .i32 1114111] 210);exact⟨_,rfl,zbP (zcJ [(0,9),(11,1114111)] (by decide) (by decide) w2.heap.size ((aN w2 _ _).trans (zP rfl))) (λb hb=>by cases hb;exact AR.size),QZ.below Jb,aD AR (aF Jb _)⟩
  rw[zN Al] at hR
  have e46:(c==46)=false:=by simp[Al]
  by_cases QX:c=93\/c=123\/c=125\/c=42\/c=43\/c=63
  . rw[zP QX] at hR
    have HR:=zh hR;clear hR
    rcases QX with rfl|rfl|rfl|rfl|rfl|rfl
    all_goals
     go_enter Tryz.func113,Tryz.ntmps113;go_wp2_with (first|(go_at_call 98;refine hP.mono ?_;rintro e w1 ⟨rfl,Hk⟩)|(go_at_call 80;refine (dT 2 p _).mono ?_;rintro e w' ⟨rfl,rfl⟩));refine⟨rfl,?_⟩;rw[<-HR.o];exact⟨rfl,aF Hk _⟩
  rw[zN QX] at hR
  have HR:=zh hR;have e1:(c==93)=false:=by simp;omega
  have e2:(c==123)=false:=by simp;omega
  have e3:(c==125)=false:=by simp;omega
  have e4:(c==42)=false:=by simp;omega
  have e5:(c==43)=false:=by simp;omega
  have e6:(c==63)=false:=by simp;omega
  clear hR QX;go_enter Tryz.func113,Tryz.ntmps113;go_wp2_with (first|(go_at_call 98;refine hP.mono ?_;rintro e w1 ⟨rfl,Hk⟩;have H1:=zh (H.o.below Hk)));refine (zbJ bp s p w1 H1.o).mono ?_;intro r w2 hr;cases QP:bP s p with
  | error e=>
   rw[QP] at hr;obtain⟨rfl,qf⟩:=hr;refine⟨rfl,?_⟩;rw[<-HR.o,QP];exact⟨rfl,aD (aF Hk _) qf⟩
  | ok cq=>
   obtain⟨y,q⟩:=cq;rw[QP] at hr;obtain⟨v,rfl,rfl,QZ,qf⟩:=hr;have QL:=HR.o;rw[QP] at QL;have QV:=zh QL;have AR:=aD (aF Hk (some bp)) qf;have Xj:=zh QZ;have Y5:=zh AR;clear QL HR qf AR QZ Hk QP H1;go_wp2_with (fail);go_ret;rw[<-QV.o];have Jb:=(zBr _ w2).alloc (zR _) (.cells #[.int .i32 y,.int .i32 y] 210)
   exact⟨_,rfl,zbP (zcJ [(y,y)] (by simp) (by simp) w2.heap.size ((aN w2 _ _).trans (zP rfl))) (λb hb=>by cases hb;exact Y5.o.size),Xj.o.below Jb,aD Y5.o (aF Jb _)⟩
theorem parse_all (f:Nat) (hf:f<=1000):∀ g,g<=f->RowC g/\AtomC g/\AltC g:=by
 intro g
 induction g using Nat.strongRecOn with
 | ind g ih=>
  intro hg;exact⟨row_any g (by omega) λk hk=>(ih k hk (by omega)).2.1,atom_any g λk hk=>(ih k hk (by omega)).2.2,alt_any g λk hk=>(ih k hk (by omega)).1⟩
theorem rQ {a:Addr} (h:w.cell? a=some v):a.block<w.heap.size:=by
 rcases zLg a.block w.heap.size with h2|h2
 . exact h2
 rw[World.cell?,Array.getElem?_eq_none h2] at h
 cases h
theorem zfp (a b:Addr) (w:World):
 CallsD Tryz.prog 78 #[.pointer (some a),.pointer (some b)] .returning w λe u' w'=>e=.returned (.tuple #[])/\u'=.returning/\w'=w:=by
 refine callsD_of_wpS Tryz.func78 rfl λc₀ cs hu=> ?_;apply wpS_seq;apply wpS_region;generalize hQ:Exit.thenS _ _=Q;simp[wpOpsS,go_sem,recoverD,hu,Tryz.ntmps78];subst hQ;simp only[Exit.thenS];refine wpS_of_wp (wp_mono (Q:=λen a' w'=>en=.normal/\a'.defers=[]/\w'=w) ?_ ?_)
 . change Code.wp _ _ _ {tmps:=#[.pointer (some a),.pointer (some b),undef,undef,undef,.nilIface,undef,undef,undef,undef,undef,undef,undef,undef,undef,undef,undef,undef],defers:=[]} w
   go_wp2
   all_goals trivial
 rintro e a' w' ⟨rfl,hd,rfl⟩
 cases c₀;simp_all[bodyPostS,results,Tryz.results78]
theorem zcE (v:Value) (w:World):(Instr.typeAssert (.iface 193 v) 20 193 true).run Tryz.prog w=.ok (.tuple #[v,.bool true]) w:=by kernel_rfl
theorem zaB (ba bb:Nat) (x y:Value) (e k:Nat) (w:World) (ha:w.cell? ⟨ba,0,none⟩=some x) (hb:w.cell? ⟨bb,0,none⟩=some y) (fa:w.frozen? ⟨ba,0,none⟩=false) (fb:w.frozen? ⟨bb,0,none⟩=false) (Xz:ba≠bb):
 CallsD Tryz.prog 78 #[.pointer (some ⟨ba,0,none⟩),.pointer (some ⟨bb,0,none⟩)] (.panicking [{v:=wrongV e k,recovered:=false}]) w λr u' w'=>
  r=.returned (.tuple #[])/\u'=.panicking [{v:=wrongV e k,recovered:=true}]/\w'=((((w.setCell ⟨ba,0,none⟩ .nilIface).setCell ⟨bb,0,none⟩ (.iface 82 (.pointer (some ⟨w.heap.size+1,0,none⟩)))).alloc (.cells #[.int .i64 e,.int .i64 k] 193)).alloc (.cells #[.int .i64 e,.int .i64 0,.int .i64 k] 86)).drew:=by
 refine callsD_of_wpS Tryz.func78 rfl λc₀ cs hu=> ?_;apply wpS_seq;apply wpS_region;generalize hQ:Exit.thenS _ _=Q;simp[wpOpsS,go_sem,recoverD,hu,Tryz.ntmps78];subst hQ;simp only[Exit.thenS];refine wpS_of_wp (wp_mono (Q:=λen a' w'=>en=.normal/\a'.defers=[]/\w'=((((w.setCell ⟨ba,0,none⟩ .nilIface).setCell ⟨bb,0,none⟩ (.iface 82 (.pointer (some ⟨w.heap.size+1,0,none⟩)))).alloc (.cells #[.int .i64 e,.int .i64 k] 193)).alloc (.cells #[.int .i64 e,.int .i64 0,.int .i64 k] 86)).drew) ?_ ?_)
 . change Code.wp _ _ _ {tmps:=#[.pointer (some ⟨ba,0,none⟩),.pointer (some ⟨bb,0,none⟩),undef,undef,undef,.iface 193 (.agg #[.int .i64 e,.int .i64 k]),undef,undef,undef,undef,undef,undef,undef,undef,undef,undef,undef,undef],defers:=[]} w
   have Ex:=zcE (.agg #[.int .i64 e,.int .i64 k]);have la:=rQ ha;have lb:=rQ hb;go_wp2;go_region_with (fail)
   all_goals go_wp2
   all_goals rfl
 rintro en a' w' ⟨rfl,hd,h⟩
 cases c₀;simp_all[bodyPostS,results,Tryz.results78]
theorem zbd (w:World) (ba bb e k:Nat) (ta tb:TypeId) {xa xb:Value} (ha:w.heap[ba]?=some (.cells #[xa] ta (0,0))) (hb:w.heap[bb]?=some (.cells #[xb] tb (0,0))) (Xz:ba≠bb):
 let w':=((((w.setCell ⟨ba,0,none⟩ .nilIface).setCell ⟨bb,0,none⟩ (.iface 82 (.pointer (some ⟨w.heap.size+1,0,none⟩)))).alloc (.cells #[.int .i64 e,.int .i64 k] 193)).alloc (.cells #[.int .i64 e,.int .i64 0,.int .i64 k] 86)).drew
 (w'.heap[ba]?=some (.cells #[.nilIface] ta (0,0))/\w'.heap[bb]?=some (.cells #[.iface 82 (.pointer (some ⟨w.heap.size+1,0,none⟩))] tb (0,0))/\w'.heap[w.heap.size+1]?=some (.cells #[.int .i64 e,.int .i64 0,.int .i64 k] 86 (0,0)))/\
 (∀ B,B<=ba->B<=bb->Below B w w'):=by
 intro w';have la:=aA ha;have lb:=aA hb;have s1:(w.setCell ⟨ba,0,none⟩ .nilIface).heap.size=w.heap.size:=by simp
 have h1:((w.setCell ⟨ba,0,none⟩ .nilIface).setCell ⟨bb,0,none⟩ (.iface 82 (.pointer (some ⟨w.heap.size+1,0,none⟩)))).heap[ba]?=some (.cells #[.nilIface] ta (0,0)):=by
  rw[aG _ _ _ _ (by simpa using Xz),aC w ba 0 .nilIface _ _ _ ha];rfl
 have h2:((w.setCell ⟨ba,0,none⟩ .nilIface).setCell ⟨bb,0,none⟩ (.iface 82 (.pointer (some ⟨w.heap.size+1,0,none⟩)))).heap[bb]?=some (.cells #[.iface 82 (.pointer (some ⟨w.heap.size+1,0,none⟩))] tb (0,0)):=by
  rw[aC _ bb 0 _ _ _ _ ((aG _ _ _ _ (by simpa using Xz.symm)).trans hb)];rfl
 refine⟨⟨?_,?_,?_⟩,λB hA hB=> ?_⟩
 . show (World.alloc _ _).heap[ba]?=_
   rw[aN,zN (by simp;omega),aN,zN (by simp;omega)];exact h1
 . show (World.alloc _ _).heap[bb]?=_
   rw[aN,zN (by simp;omega),aN,zN (by simp;omega)];exact h2
 . show (World.alloc _ _).heap[_]?=_
   rw[aN,zP (by simp)]
 exact (((((zBr B w).setCell hA _).setCell hB _).alloc (by simp;omega) _).alloc (by simp;omega) _).drew
theorem rC {a b:World} {g B:Nat} (h:a.grownBy b (some g)) (hB:B<=g) (Nq:B<=a.heap.size):Below B a b:=
 ⟨h.os,h.tape,h.output,h.size,λk hk=>h.block k (by omega) (λe=>by cases e;omega)⟩
def PRes (s:ByteArray) (w:World) (r:Ending) (w':World):Prop:=
 match fZ s with
 | .ok t=>∃ v,r=.returned (.tuple #[v,.nilIface])/\aX (Fr w.heap.size) w' t v
 | .error e=>∃ b,r=.returned (.tuple #[.nilIface,.iface 82 (.pointer (some ⟨b,0,none⟩))])/\w'.heap[b]?=some (.cells #[.int .i64 e.1,.int .i64 0,.int .i64 e.2] 86 (0,0))/\w.heap.size<=b
theorem start_ps (s:ByteArray) (w:World) (hs:s.size<=60) (hT:Tabs w) (hg:mN<=w.heap.size):
 PS (w.heap.size+1+1) s 0 (((w.alloc (.cells #[.nilIface] 138)).alloc (.cells #[.nilIface] 34)).alloc (.cells #[.string s,.int .i64 0] 196)):=by
 refine⟨?_,?_,by omega,by omega,zZ _⟩
 . unfold PAt
   rw[aN,zP (by simp)];rfl
 exact sF (B:=w.heap.size) hT ((((zBr _ w).alloc (zR _) _).alloc (by simp) _).alloc (by simp;omega) _) hg
theorem zdf (s:ByteArray) (w:World) (hs:s.size<=60) (hT:Tabs w) (hg:mN<=w.heap.size) (hfuel:kH s (4*s.size+10) 0 0≠ .error (0,0)):
 Calls Tryz.prog 56 #[.string s] w λr w'=>PRes s w r w'/\Below w.heap.size w w':=by
 have Qu:=start_ps s w hs hT hg;have HF:=zh hfuel;have HC:∀ X,kH s (4*s.size+10) 0 0=X->fZ s=match X with
  | .error e=>.error e
  | .ok (t,q)=>if q<s.size then .error (2,q) else .ok t:=λX h=>by rw[fZ,h];rfl
 have Yp:=zh HC;clear hfuel HC
 go_enter_defers Tryz.func56,Tryz.ntmps56
 go_wp2_with (fail);have M4:=((((zBr _ w).alloc (zR _) (.cells #[.nilIface] 138)).alloc (by simp) (.cells #[.nilIface] 34)).alloc (by simp;omega) (.cells #[.string s,.int .i64 0] 196));generalize sw:((w.alloc (.cells #[.nilIface] 138)).alloc (.cells #[.nilIface] 34)).alloc (.cells #[.string s,.int .i64 0] 196)=w3 at*;have Mu:=(parse_all (4*s.size+10) (by omega) (4*s.size+10) (zR _)).2.2 _ s 0 0 w3 Qu hs (by omega) HF.o;refine Mu.mono ?_;intro r w4 hr;have DB:w.heap.size+1+1<w3.heap.size:=Qu.lt
 have PY:w3.heap[w.heap.size]?=some (.cells #[.nilIface] 138 (0,0)):=by
  rw[<-sw,aN,zN (by simp;omega),aN,zN (by simp),aN,zP rfl]
 have Qi:w3.heap[w.heap.size+1]?=some (.cells #[.nilIface] 34 (0,0)):=by
  rw[<-sw,aN,zN (by simp),aN,zP (by simp)]
 cases hx:kH s (4*s.size+10) 0 0 with
 | error e=>
  have hP:=Yp.o _ hx;rw[hx] at hr;obtain⟨rfl,Ve⟩:=hr;have PZ:=kU PY Ve (by omega);have Qa:=kU Qi Ve (by omega);refine leaves_cons (f:=78) (args:=#[.pointer (some ⟨w.heap.size,0,none⟩),.pointer (some ⟨w.heap.size+1,0,none⟩)]) (by simp) (by simp[go_sem]) ?_;refine (zaB w.heap.size (w.heap.size+1) .nilIface .nilIface e.1 e.2 w4 (aB w4 _ 0 _ _ _ PZ) (aB w4 _ 0 _ _ _ Qa) (aM w4 _ 0 _ _ PZ) (aM w4 _ 0 _ _ Qa) (by omega)).mono ?_;rintro r' u' w5 ⟨rfl,rfl,X9⟩
  have DC:w.heap.size+1+1<w4.heap.size:=zLd DB Ve.size;obtain⟨UF,N5⟩:=zbd w4 w.heap.size (w.heap.size+1) e.1 e.2 _ _ PZ Qa (by omega);rw[<-X9] at UF N5;have BZ:=aB w5 _ 0 _ _ _ UF.1;have Yq:=aB w5 _ 0 _ _ _ UF.2.1;simp only[zLa] at BZ Yq;simp[Leaves,settle,results,Tryz.results56,go_sem,BZ,Yq];refine⟨?_,?_⟩
  . unfold PRes
    rw[hP];exact⟨_,rfl,UF.2.2,by omega⟩
  . exact M4.trans ((rC Ve (by omega) (by omega)).trans (N5 w.heap.size (zR _) (by omega)))
 | ok tq=>
  obtain⟨t,q⟩:=tq;have hP:=Yp.o _ hx;rw[hx] at hr;obtain⟨v,rfl,VY,UU,Ve⟩:=hr;have PZ:=kU PY Ve (by omega);have Qa:=kU Qi Ve (by omega);have Za:=aB w4 _ 0 _ _ _ PZ;have dg:=aB w4 _ 0 _ _ _ Qa;have Ki:=aM w4 _ 0 _ _ PZ;have Ys:=aM w4 _ 0 _ _ Qa;simp only[zLa] at Za dg;obtain⟨d0,d1,g1⟩:=UU.cells;obtain⟨x,rfl,_⟩:=iS t v _ w4 VY;simp only at hP;by_cases Hf:q<s.size
  . have hz:(q:Int)<(s.size:Int):=by omega
    rw[zP Hf] at hP;go_wp2_with (go_at_call 80;refine (dT 2 q _).mono ?_;rintro e w' ⟨rfl,rfl⟩);have BX:=aC w4 w.heap.size 0 (.iface (eP t) x) _ _ _ PZ;have B5:=(aG w4 ⟨w.heap.size,0,none⟩ (.iface (eP t) x) (w.heap.size+1) (by simp)).trans Qa;have Az:Below w.heap.size w4 (w4.setCell ⟨w.heap.size,0,none⟩ (.iface (eP t) x)):=Below.setCell (zBr w.heap.size w4) (p:=(⟨w.heap.size,0,none⟩:Addr)) (zR _) _;have DC:w.heap.size+1+1<w4.heap.size:=zLd DB Ve.size
    have Z8:(w4.setCell ⟨w.heap.size,0,none⟩ (.iface (eP t) x)).heap.size=w4.heap.size:=by simp
    generalize w4.setCell ⟨w.heap.size,0,none⟩ (.iface (eP t) x)=w6 at*;refine leaves_cons (f:=78) (args:=#[.pointer (some ⟨w.heap.size,0,none⟩),.pointer (some ⟨w.heap.size+1,0,none⟩)]) (by simp) (by simp[go_sem]) ?_;refine (zaB w.heap.size (w.heap.size+1) (.iface (eP t) x) .nilIface 2 q w6 (aB w6 _ 0 _ _ _ BX) (aB w6 _ 0 _ _ _ B5) (aM w6 _ 0 _ _ BX) (aM w6 _ 0 _ _ B5) (by omega)).mono ?_;rintro r' u' w5 ⟨rfl,rfl,X9⟩;obtain⟨UF,N5⟩:=zbd w6 w.heap.size (w.heap.size+1) 2 q _ _ BX B5 (by omega)
    rw[<-X9] at UF N5;have BZ:=aB w5 _ 0 _ _ _ UF.1;have Yq:=aB w5 _ 0 _ _ _ UF.2.1;simp only[zLa] at BZ Yq;simp[Leaves,settle,results,Tryz.results56,go_sem,BZ,Yq];refine⟨?_,?_⟩
    . unfold PRes
      rw[hP];exact⟨_,rfl,UF.2.2,by omega⟩
    exact M4.trans ((rC Ve (by omega) (by omega)).trans (Az.trans (N5 w.heap.size (zR _) (by omega))))
  rw[zN Hf] at hP
  have hz:¬ (q:Int)<(s.size:Int):=by omega
  go_wp2_with (fail);have DC:w.heap.size+1+1<w4.heap.size:=zLd DB Ve.size;have BZ:=aC _ w.heap.size 0 (.iface (eP t) x) _ _ _ (aC w4 w.heap.size 0 (.iface (eP t) x) _ _ _ PZ);have Yq:=((aG (w4.setCell ⟨w.heap.size,0,none⟩ (.iface (eP t) x)) ⟨w.heap.size,0,none⟩ (.iface (eP t) x) (w.heap.size+1) (by simp)).trans (aG w4 ⟨w.heap.size,0,none⟩ (.iface (eP t) x) (w.heap.size+1) (by simp))).trans Qa
  have FK:=(aG ((w4.setCell ⟨w.heap.size,0,none⟩ (.iface (eP t) x)).setCell ⟨w.heap.size,0,none⟩ (.iface (eP t) x)) ⟨w.heap.size+1,0,none⟩ .nilIface w.heap.size (by simp)).trans BZ;have yd:=aC _ (w.heap.size+1) 0 .nilIface _ _ _ Yq;have ZD:∀ g,w3.heap.size<=g->(((w4.setCell ⟨w.heap.size,0,none⟩ (.iface (eP t) x)).setCell ⟨w.heap.size,0,none⟩ (.iface (eP t) x)).setCell ⟨w.heap.size+1,0,none⟩ .nilIface).heap[g]?=w4.heap[g]?:=by
   intro g hg;rw[aG _ _ _ _ (by simp;omega),aG _ _ _ _ (by simp;omega),aG _ _ _ _ (by simp;omega)]
  have Az:Below w.heap.size w4 (((w4.setCell ⟨w.heap.size,0,none⟩ (.iface (eP t) x)).setCell ⟨w.heap.size,0,none⟩ (.iface (eP t) x)).setCell ⟨w.heap.size+1,0,none⟩ .nilIface):=
   (((zBr w.heap.size w4).setCell (p:=(⟨w.heap.size,0,none⟩:Addr)) (zR _) _).setCell (p:=(⟨w.heap.size,0,none⟩:Addr)) (zR _) _).setCell (p:=(⟨w.heap.size+1,0,none⟩:Addr)) (Nat.le_succ _) _
  generalize ((w4.setCell ⟨w.heap.size,0,none⟩ (.iface (eP t) x)).setCell ⟨w.heap.size,0,none⟩ (.iface (eP t) x)).setCell ⟨w.heap.size+1,0,none⟩ .nilIface=w6 at*;refine leaves_cons (f:=78) (args:=#[.pointer (some ⟨w.heap.size,0,none⟩),.pointer (some ⟨w.heap.size+1,0,none⟩)]) (by simp) (by simp[go_sem]) ?_;refine (zfp ⟨w.heap.size,0,none⟩ ⟨w.heap.size+1,0,none⟩ w6).mono ?_;rintro r' u' w5 ⟨rfl,rfl,rfl⟩;have ca5:=aB w5 _ 0 _ _ _ FK;have cb5:=aB w5 _ 0 _ _ _ yd;simp at ca5 cb5
  simp[Leaves,settle,results,Tryz.results56,go_sem,ca5,cb5];refine⟨?_,?_⟩
  . unfold PRes
    rw[hP];exact⟨_,rfl,VY.ext (λg hg=>by unfold Fr at*;omega) (λg hg _=>ZD g (by unfold Fr at hg;omega))⟩
  exact M4.trans ((rC Ve (by omega) (by omega)).trans Az)
