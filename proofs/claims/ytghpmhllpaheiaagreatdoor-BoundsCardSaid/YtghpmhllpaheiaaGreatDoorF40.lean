/- Part of a proof. No condition. -/
import Derived.Test.YtghpmhllpaheiaaGreatDoorF38
import Derived.Test.YtghpmhllpaheiaaGreatDoorF39
set_option linter.unusedVariables false
set_option linter.unusedSimpArgs false
set_option maxRecDepth 100000
set_option maxHeartbeats 16000000
namespace Go.Proofs.YtghpmhllpaheiaaGreatDoor
open Go.RowKit Go.Lib
variable {e:TypeId} {v u v':Value} {n i k tb:Nat} {xs:List Value} {l T o:List Int} {w w1 w2:World} {b:Int} {ob:Obj}
theorem vM (t:aJ):∀ M,gD M->gD (eN t M).2/\dW (eN t M).1 (eN t M).2.fL.length/\M.fL.length<=(eN t M).2.fL.length:=λM h=>oE t M h
theorem mkR_hyp (l:List aJ):∀ M,gD M->gD (sL l gW M).2/\dW (sL l gW M).1 (sL l gW M).2.fL.length/\M.fL.length<=(sL l gW M).2.fL.length:=λM h=>mkR_ok l gW M h (lM _)
mutual
theorem nC {N:List Nd} {nl:Value}:∀ {k:Nat} {t:aJ},cO N k t->rB N nl k (eN t)
 | _,_,.place k d c h hk hn hc hr=>λB mb D S w M hm hrel Hv=>by
  by_cases qq:D.on=true
  . rw[rT _ M (by rw[<-hrel.on];exact qq)]
    exact rS h B mb D S w M hm hrel qq
  . exact zfE h hk hc hr B mb D S w M hm hrel Hv (by simpa using qq)
 | _,_,.row k l h=>λB mb D S w M hm hrel Hv=>by
  rw[eN];exact zeP h B mb D S w M hm hrel Hv
 | _,_,.either k d x y h hk hn hx hy=>λB mb D S w M hm hrel Hv=>by
  by_cases qq:D.on=true
  . rw[rT _ M (by rw[<-hrel.on];exact qq)]
    exact rS h B mb D S w M hm hrel qq
  . rw[eN,zN (by rw[<-hrel.on];exact qq)]
    exact zdZ h hk (nC hx) (nC hy) (vM x) (vM y) B mb D S w M hm hrel Hv (by simpa using qq)
 | _,_,.star k d t h hk hn ht=>λB mb D S w M hm hrel Hv=>by
  by_cases qq:D.on=true
  . rw[rT _ M (by rw[<-hrel.on];exact qq)]
    exact rS h B mb D S w M hm hrel qq
  . rw[eN,zN (by rw[<-hrel.on];exact qq),zN (by decide)]
    exact make_star h hk (nC ht) (vM t) B mb D S w M hm hrel Hv (by simpa using qq)
 | _,_,.plus k d t h hk hn ht=>λB mb D S w M hm hrel Hv=>by
  by_cases qq:D.on=true
  . rw[rT _ M (by rw[<-hrel.on];exact qq)]
    exact rS h B mb D S w M hm hrel qq
  . rw[eN,zN (by rw[<-hrel.on];exact qq),zN (by decide)]
    exact make_plus h hk (nC ht) (vM t) B mb D S w M hm hrel Hv (by simpa using qq)
 | _,_,.opt k d t h hk hn ht=>λB mb D S w M hm hrel Hv=>by
  by_cases qq:D.on=true
  . rw[rT _ M (by rw[<-hrel.on];exact qq)]
    exact rS h B mb D S w M hm hrel qq
  rw[eN,zN (by rw[<-hrel.on];exact qq),zP rfl]
  have e:((eN t M).1.emp||decide ((0:Int)=0))=true:=by simp
  rw[e];exact make_opt h hk (nC ht) (vM t) B mb D S w M hm hrel Hv (by simpa using qq)
theorem zeP {N:List Nd} {nl:Value}:∀ {k:Nat} {l:List aJ},kD N k l->rB N nl k (sL l gW)
 | _,_,.nil k d h hk hn=>λB mb D S w M hm hrel Hv=>by
  rw[sL];by_cases qq:D.on=true
  . exact rS h B mb D S w M hm hrel qq
  . exact make_nil h hk B mb D S w M hm hrel (by simpa using qq)
 | _,_,.snoc k d l t h hk hn hl ht=>λB mb D S w M hm hrel Hv=>by
  by_cases qq:D.on=true
  . rw[mkR_on _ M (by rw[<-hrel.on];exact qq)]
    exact rS h B mb D S w M hm hrel qq
  rw[mkR_snoc]
  exact make_cat h hk (zeP hl) (nC ht) (mkR_hyp l) (vM t) B mb D S w M hm hrel Hv (by simpa using qq)
end
structure TS where
 vR:Value
 vL:Value
 vF:Value
 vC:Value
 vS:Value
 vG:Value
 fv:List Value
 sv:List Value
 gv:List Value
structure TD where
 rL:List (Value×Rng)
 last:List Int
 fL:List (List Nat)
 cU:List Int
 sE:List (List Nat)
 gO:List (List Int)
 bound:Int
structure fV (tb:Nat) (D:TD) (S:TS) (w:World):Prop where
 blk:w.heap[tb]?=some (.cells #[S.vR,S.vL,S.vF,S.vC,S.vS,S.vG,.int .i64 D.bound] 277 (0,0))
 rR:w.ownsRow 0 299 1 S.vR D.rL.length (D.rL.map (·.1))
 rr:∀ p∈D.rL,w.ownsRow 0 304 2 p.1 p.2.length (eQ p.2)
 lR:cW w S.vL D.last
 fR:w.ownsRow 0 39 1 S.vF D.fL.length S.fv
 fli:∀ (i:Nat) (v:Value),S.fv[i]?=some v->cW w v (eX (D.fL.getD i []))
 crow:cW w S.vC D.cU
 srow:w.ownsRow 0 39 1 S.vS D.sE.length S.sv
 sli:∀ (i:Nat) (v:Value),S.sv[i]?=some v->cW w v (eX (D.sE.getD i []))
 grow:w.ownsRow 0 39 1 S.vG D.gO.length S.gv
 gli:∀ (i:Nat) (v:Value),S.gv[i]?=some v->cW w v (D.gO.getD i [])
 a1:∀ g,S.vS.ownBlock=some g->S.vF.ownBlock≠some g/\S.vG.ownBlock≠some g
 a2:∀ g,S.vG.ownBlock=some g->S.vF.ownBlock≠some g
section
variable {tb:Nat} {D:TD} {S:TS} {w w':World}
theorem fV.lt (h:fV tb D S w):tb<w.heap.size:=aA h.blk
theorem fV.below (h:fV tb D S w) (hb:Below w.heap.size w w'):fV tb D S w':=
 ⟨(hb.block _ h.lt).trans h.blk,aZ h.rR hb,λp hp=>aZ (h.rr p hp) hb,h.lR.below hb,aZ h.fR hb,λi v hv=>(h.fli i v hv).below hb,h.crow.below hb,aZ h.srow hb,λi v hv=>(h.sli i v hv).below hb,aZ h.grow hb,λi v hv=>(h.gli i v hv).below hb,h.a1,h.a2⟩
theorem fV.cells (h:fV tb D S w):w.cell? ⟨tb,0,none⟩=some S.vR/\w.cell? ⟨tb,1,none⟩=some S.vL/\w.cell? ⟨tb,2,none⟩=some S.vF/\w.cell? ⟨tb,3,none⟩=some S.vC/\w.cell? ⟨tb,4,none⟩=some S.vS/\w.cell? ⟨tb,5,none⟩=some S.vG/\w.cell? ⟨tb,6,none⟩=some (.int .i64 D.bound):=
 ⟨by rw[aB _ _ 0 _ _ _ h.blk];rfl,by rw[aB _ _ 1 _ _ _ h.blk];rfl,by rw[aB _ _ 2 _ _ _ h.blk];rfl,by rw[aB _ _ 3 _ _ _ h.blk];rfl,by rw[aB _ _ 4 _ _ _ h.blk];rfl,by rw[aB _ _ 5 _ _ _ h.blk];rfl,by rw[aB _ _ 6 _ _ _ h.blk];rfl⟩
theorem qE (h:w.ownsRow 0 e 1 v n xs) (hi:i<n):∃ g cap u,v=.slice (some ⟨g,0,none⟩) n cap/\g<w.heap.size/\xs[i]?=some u/\w.cell? ⟨g,i,none⟩=some u:=by
 have hl:xs.length=n:=by have:=h.1;omega
 rcases bD h with⟨_,h0⟩|⟨g,cap,e,_,hg⟩
 . omega
 subst e
 exact⟨g,cap,_,rfl,hg,zLe (by omega),aE h i _ (zLe (by omega))⟩
theorem sH (h:cW w v l) (hi:i<l.length):∃ g cap,v=.slice (some ⟨g,0,none⟩) l.length cap/\g<w.heap.size/\w.cell? ⟨g,i,none⟩=some (.int .i64 (l.getD i 0)):=by
 obtain⟨g,cap,u,e,hg,hu,hc⟩:=qE h hi;rw[fG hi] at hu;cases hu;exact⟨g,cap,e,hg,hc⟩
end
theorem rin_any (v:Value) (l:Rng) (c:Int) (w:World) (h:w.ownsRow 0 304 2 v l.length (eQ l)) (hl:l.length<=9223372036854775807):
 Calls Tryz.prog 170 #[v,.int .i64 c] w λe w'=>e=.returned (.bool (inCl l c))/\w'=w:=by
 have hc:∀ (i:Nat) (r:Int×Int),l[i]?=some r->∃ g cap,v=.slice (some ⟨g,0,none⟩) l.length cap/\w.cell? ⟨g,i*2,none⟩=some (.int .i64 r.1)/\w.cell? ⟨g,i*2+1,none⟩=some (.int .i64 r.2):=λi r hr=>by
  have hi:=(List.getElem?_eq_some_iff.1 hr).1
  rcases bD h with⟨_,h0⟩|⟨g,cap,e,_,hg⟩
  . omega
  subst e
  obtain⟨h1,h2⟩:=zaH l i r hr;exact⟨g,cap,rfl,aE h _ _ h1,aE h _ _ h2⟩
 obtain⟨ao,cap,rfl⟩:=iT h;have HC:=zh hc;have HL:=zh hl;clear h hc hl;go_enter Tryz.func170,Tryz.ntmps170;go_wp2_with (fail);go_loopw [5] (λs5 wr=>∃ i:Nat,s5=.int .i64 i/\i<=l.length/\(∀ (j:Nat) (r:Int×Int),j<i->l[j]?=some r->¬ (r.1<=c/\c<=r.2))/\wr=w) (λs5 _=>l.length-(RowKit.intOf s5).toNat)
 case atStart=>exact⟨0,rfl,by omega,λj r hj=>by omega,rfl⟩
 case round=>
  obtain⟨i,rfl,hi,xd,rfl⟩:=hrel;have K9:=zh xd;clear xd;by_cases Hf:i<l.length
  . obtain⟨r,hr⟩:=zG l i Hf
    obtain⟨g,Y7,e,c0,c1⟩:=HC.o i r hr;cases e;have HR:=zh hr;obtain⟨lo,yn⟩:=r;dsimp only at c0 c1;have zl:(i:Int)<(l.length:Int):=by omega
    have Xe:=zW i (by have:=HL.o;omega);clear hr;by_cases h1:lo<=c
    . by_cases h2:c<=yn
      . have HE:zH (inCl l c=true):=zh (zaq.2 ⟨_,zM HR.o,h1,h2⟩)
        go_wp2_with (fail);go_ret;exact⟨by rw[HE.o];rfl,rfl⟩
      go_wp2_with (fail)
      go_roundw
      case rel=>exact⟨i+1,by go_num,by omega,(λj r hj hr=>by
       by_cases e:j=i
       . subst e;rw[HR.o] at hr;cases hr;exact λh=>h2 h.2
       . exact K9.o j r (by omega) hr),trivial⟩
      case measure=>(simp[zI]<;>omega)
    go_wp2_with (fail)
    go_roundw
    case rel=>exact⟨i+1,by go_num,by omega,(λj r hj hr=>by
     by_cases e:j=i
     . subst e;rw[HR.o] at hr;cases hr;exact λh=>h1 h.1
     . exact K9.o j r (by omega) hr),trivial⟩
    case measure=>(simp[zI]<;>omega)
  have zl:¬ (i:Int)<(l.length:Int):=by omega
  have HE:zH (inCl l c=false):=zh (by
   rw[<-Bool.not_eq_true,zaq];rintro⟨r,hr,h1,h2⟩;obtain⟨j,hj⟩:=List.mem_iff_getElem?.1 hr;exact K9.o j r (by have:=(List.getElem?_eq_some_iff.1 hj).1;omega) hj ⟨h1,h2⟩)
  go_wp2_with (fail);go_ret;exact⟨by rw[HE.o];rfl,rfl⟩
theorem zei (va vb:Value) (a b:List Int) (w:World) (ha:cW w va a) (hb:cW w vb b) (P0:a.length<=1000000):
 Calls Tryz.prog 155 #[va,vb] w λe w'=>e=.returned (.bool (decide (a=b)))/\Below w.heap.size w w':=by
 obtain⟨aoa,ca,ug⟩:=ha.form;obtain⟨aob,cb,DQ⟩:=hb.form;subst ug DQ;have HA:=zh ha;have HB:=zh hb;have HL:=zh P0;clear ha hb P0;go_enter Tryz.func155,Tryz.ntmps155;by_cases Hg:a.length=b.length
 . have z:((a.length:Int) != (b.length:Int))=false:=by simp[Hg]
   have yf:=zh Hg;clear Hg;go_wp2_with (fail);go_loopw [5] (λs5 wr=>∃ i:Nat,s5=.int .i64 i/\i<=a.length/\(∀ j,j<i->a.getD j 0=b.getD j 0)/\Below w.heap.size w wr) (λs5 _=>a.length-(RowKit.intOf s5).toNat)
   case atStart=>exact⟨0,rfl,by omega,λj hj=>by omega,zBr _ _⟩
   case round=>
    obtain⟨i,rfl,hi,xd,VE⟩:=hrel;have K9:=zh xd;have vy:=zh VE;clear xd;by_cases Hf:i<a.length
    . obtain⟨ga,ca',e,la,cga⟩:=sH (HA.o.below VE) Hf
      cases e;obtain⟨gb,cb',e,lb,cgb⟩:=sH (HB.o.below VE) (by rw[<-yf.o];exact Hf);cases e;have zl:(i:Int)<(a.length:Int):=by omega
      have zl2:(i:Int)<(b.length:Int):=by have:=yf.o;omega
      have Xe:=zW i (by have:=HL.o;omega);obtain⟨x,hx⟩:=zE (a.getD i 0);obtain⟨y,hy⟩:=zE (b.getD i 0);rw[<-hx] at cga;rw[<-hy] at cgb;have IR:=zh (zAi hx hy);clear hx hy VE;by_cases he:x=y
      . have z1:(x != y)=false:=by simp[he]
        have HE:=zh he;clear he;go_upto_region 6 with (fail)
        go_quiet (fail);go_wp2_with (fail);go_roundw
        case rel=>exact⟨i+1,by go_num,by omega,(λj hj=>by
         by_cases e:j=i
         . subst e;rw[<-IR.o.1,<-IR.o.2];exact HE.o
         . exact K9.o j (by omega)),vy.o.trans (aV (zBr _ wr) _ |>.mono vy.o.size)⟩
        case measure=>(simp[zI]<;>omega)
      have z1:(x != y)=true:=by simp[he]
      have HE:zH (decide (a=b)=false):=zh (decide_eq_false λh=>he (by rw[IR.o.1,IR.o.2,h]));clear he;go_upto_region 6 with (fail)
      go_quiet (fail);go_wp2_with (fail);go_ret;exact⟨by rw[HE.o];rfl,vy.o.trans (aV (zBr _ wr) _ |>.mono vy.o.size)⟩
    have zl:¬ (i:Int)<(a.length:Int):=by omega
    have HE:zH (decide (a=b)=true):=zh (decide_eq_true (by
     apply List.ext_getElem yf.o;intro j h1 h2;have:=K9.o j (by omega);rw[zLf,zLf,zLe h1,zLe h2] at this;exact this))
    clear VE;go_wp2_with (fail);go_ret;exact⟨by rw[HE.o];rfl,vy.o⟩
 have z:((a.length:Int) != (b.length:Int))=true:=by simp;omega
 have HE:zH (decide (a=b)=false):=zh (decide_eq_false λh=>Hg (by rw[h]));clear Hg;go_wp2_with (fail);go_ret;exact⟨by rw[HE.o];rfl,zBr _ _⟩
def widR (c:Int):Int:=if c<128 then 1 else if c<2048 then 2 else if c<65536 then 3 else 4
theorem zfY (c:Int) (w:World):Calls Tryz.prog 156 #[.int .i64 c] w λe w'=>e=.returned (.int .i64 (widR c))/\w'=w:=by
 unfold widR;by_cases h1:c<128
 . rw[zP h1]
   go_enter Tryz.func156,Tryz.ntmps156;go_wp2_with (fail);go_ret;exact⟨rfl,rfl⟩
 rw[zN h1];by_cases h2:c<2048
 . rw[zP h2]
   go_enter Tryz.func156,Tryz.ntmps156;go_wp2_with (fail);go_ret;exact⟨rfl,rfl⟩
 rw[zN h2];by_cases h3:c<65536
 . rw[zP h3]
   go_enter Tryz.func156,Tryz.ntmps156;go_wp2_with (fail);go_ret;exact⟨rfl,rfl⟩
 rw[zN h3];go_enter Tryz.func156,Tryz.ntmps156;go_wp2_with (fail);go_ret;exact⟨rfl,rfl⟩
theorem zdn (tb:Nat) (D:TD) (S:TS) (w:World) (h:fV tb D S w) (i:Nat) (hi:i<D.sE.length) (hs:∀ x∈D.sE.getD i [],x<D.last.length) (hl:(D.sE.getD i []).length<=1000000):
 Calls Tryz.prog 157 #[bJ tb,.int .i64 i] w λe w'=>e=.returned (.int .i64 ((D.sE.getD i []).foldl (jB D.last) (-1)))/\Below w.heap.size w w':=by
 have H:=zh h;have HX:=zh (zAi hs hl);have HI:=zh hi;obtain⟨s,OL⟩:=zE (D.sE.getD i []);rw[<-OL] at HX ⊢;have fw:=zh OL;clear h hi hs hl OL;unfold bJ;go_enter Tryz.func157,Tryz.ntmps157;go_wp2_with (fail);go_loopw [5,6] (λs5 s6 wr=>∃ (j:Nat) (b:Int),s6=.int .i64 j/\s5=.int .i64 b/\j<=s.length/\b=(s.take j).foldl (jB D.last) (-1)/\Below w.heap.size w wr) (λ_ s6 _=>s.length-(RowKit.intOf s6).toNat)
 case atStart=>exact⟨0,-1,rfl,rfl,by omega,rfl,zBr _ _⟩
 case round=>
  obtain⟨j,b,rfl,rfl,hj,hb,VE⟩:=hrel;have HB:=zh hb;have vy:=zh VE;have hr:=H.o.below VE;obtain⟨_,c1,_,_,c4,_⟩:=hr.cells;obtain⟨gs,caps,u,es,lgs,hu,cgs⟩:=qE hr.srow HI.o;have Yc:=hr.sli i u hu;rw[<-fw.o] at Yc;obtain⟨aou,cu,tD⟩:=Yc.form;rw[bO] at tD;subst tD;rw[es] at c4;have zi:(i:Int)<(D.sE.length:Int):=by have:=HI.o;omega
  clear hb es hu;by_cases Hf:j<s.length
  . have zl:(j:Int)<(s.length:Int):=by omega
    have Xe:=zW j (by have:=HX.o;omega);obtain⟨gu,cu',e,lgu,cgu⟩:=sH Yc (by rw[bO];exact Hf);rw[bO] at e;cases e;rw[zar Hf] at cgu;have hx:=HX.o.1 _ (uF Hf);have Js:(s.take (j+1)).foldl (jB D.last) (-1)=jB D.last b (s.getD j 0):=by
     rw[oX Hf,List.foldl_append,<-HB.o];rfl
    generalize s.getD j 0=x at cgu hx Js;obtain⟨gl,capl,el,lgl,cgl⟩:=sH hr.lR hx;rw[el] at c1;have zx:(x:Int)<(D.last.length:Int):=by omega
    have UJ:jB D.last b x=if 0<=D.last.getD x (-1)/\(b<0\/D.last.getD x (-1)<b) then D.last.getD x (-1) else b:=rfl
    have KY:D.last.getD x (-1)=D.last.getD x 0:=by
     rw[zLf,zLf,zLe hx];rfl
    rw[KY] at UJ;rw[UJ] at Js;clear UJ KY;generalize D.last.getD x 0=r at cgl Js;have QM:=zh Js;clear Js el Yc hr VE hx;by_cases h0:0<=r
    . by_cases h1:b<0
      . have yb:zH (r=(s.take (j+1)).foldl (jB D.last) (-1)):=zh (by rw[QM.o,zP ⟨h0,.inl h1⟩])
        clear QM HB;go_upto_region 5 with (fail)
        go_quiet (fail);go_wp2_with (fail);go_roundw
        case rel=>exact⟨j+1,r,by go_num,rfl,by omega,yb.o,vy.o.trans ((aV (zBr _ wr) _).mono vy.o.size)⟩
        case measure=>(simp[zI]<;>omega)
      by_cases h2:r<b
      . have yb:zH (r=(s.take (j+1)).foldl (jB D.last) (-1)):=zh (by rw[QM.o,zP ⟨h0,.inr h2⟩])
        clear QM HB;go_upto_region 5 with (fail)
        go_quiet (fail);go_wp2_with (fail);go_roundw
        case rel=>exact⟨j+1,r,by go_num,rfl,by omega,yb.o,vy.o.trans ((aV (zBr _ wr) _).mono vy.o.size)⟩
        case measure=>(simp[zI]<;>omega)
      have yb:zH (b=(s.take (j+1)).foldl (jB D.last) (-1)):=zh (by rw[QM.o,zN (λh=>by rcases h.2 with h|h<;>omega)])
      clear QM HB;go_upto_region 5 with (fail)
      go_quiet (fail);go_wp2_with (fail);go_roundw
      case rel=>exact⟨j+1,b,by go_num,rfl,by omega,yb.o,vy.o.trans ((aV (zBr _ wr) _).mono vy.o.size)⟩
      case measure=>(simp[zI]<;>omega)
    have yb:zH (b=(s.take (j+1)).foldl (jB D.last) (-1)):=zh (by rw[QM.o,zN (λh=>h0 h.1)])
    clear QM HB;go_upto_region 5 with (fail)
    go_quiet (fail);go_wp2_with (fail);go_roundw
    case rel=>exact⟨j+1,b,by go_num,rfl,by omega,yb.o,vy.o.trans ((aV (zBr _ wr) _).mono vy.o.size)⟩
    case measure=>(simp[zI]<;>omega)
  have zl:¬ (j:Int)<(s.length:Int):=by omega
  have HE:zH (b=s.foldl (jB D.last) (-1)):=zh (by rw[HB.o,List.take_of_length_le (by omega)]);clear HB Yc hr VE;go_wp2_with (fail);go_ret;exact⟨by rw[<-HE.o];rfl,vy.o⟩
theorem mem_ints {l:List Nat}:(k:Int)∈eX l↔k∈l:=by
 unfold eX;rw[List.mem_map];constructor
 . rintro⟨x,hx,e⟩
   have:x=k:=by omega
   exact this▸hx
 exact λh=>⟨k,h,rfl⟩
theorem ints_snoc (l:List Nat) (k:Nat):eX (l++[k])=eX l++[(k:Int)]:=by simp[eX]
theorem zdp (c:Int):fT c=cH c:=by
 apply Bool.eq_iff_iff.2;unfold fT;rw[decide_eq_true_eq,dS];omega
theorem zfN (p:Nat->Bool) (k:Nat):(List.range (k+1)).filter p=(List.range k).filter p++(if p k=true then[k] else[]):=by
 rw[List.range_succ,List.filter_append];congr 1;cases h:p k<;>simp[h]
theorem any_idx {l:List Nat} {p:Nat->Bool} (hi:i<l.length) (h:p (l.getD i 0)=true):l.any p=true:=List.any_eq_true.2 ⟨_,uF hi,h⟩
theorem any_none {l:List Nat} {p:Nat->Bool} (h:∀ j,j<l.length->p (l.getD j 0)=false):l.any p=false:=by
 rw[<-Bool.not_eq_true,List.any_eq_true];rintro⟨x,hx,hp⟩;obtain⟨j,hj,e⟩:=List.mem_iff_getElem.1 hx;have:=h j hj;rw[zLf,zLe hj] at this;simp only[Option.getD_some] at this;rw[e,hp] at this;cases this
def oC (D:TD) (set:List Nat) (c:Int):List Nat:=if cH c=true then (List.range D.rL.length).filter (oD (D.rL.map (·.2)) D.fL set c) else[]
theorem zfM (tb:Nat) (D:TD) (S:TS) (w:World) (h:fV tb D S w) (v:Value) (set:List Nat) (hv:cW w v (eX set)) (c:Int) (hc:0<=c/\c<=1114111)
 (hn:1<=D.rL.length/\D.rL.length<=65/\D.fL.length=D.rL.length) (qb:∀ x∈set,x<D.fL.length) (JA:set.length<=1000) (Q3:∀ r∈D.fL,r.length<=1000) (Qz:∀ p∈D.rL,p.2.length<=9223372036854775807):
 Calls Tryz.prog 154 #[bJ tb,v,.int .i64 c] w λe w'=>∃ ao cap,e=.returned (.slice ao (oC D set c).length cap)/\pJ w.heap.size (.slice ao (oC D set c).length cap) (eX (oC D set c)) w w':=by
 have HS:=zh (sB c (by omega) w);rw[zdp] at HS;obtain⟨aos,cs,U9⟩:=hv.form;rw[bO] at U9;subst U9;have H:=zh h;have HV:=zh hv;have HX:=zh (zAi hn (zAi qb (zAi JA (zAi Q3 Qz))));clear h hv hn qb JA Q3 Qz hc;unfold bJ;by_cases ug:cH c=true
 . rw[ug] at HS
   have TV:zH (oC D set c=(List.range D.rL.length).filter (oD (D.rL.map (·.2)) D.fL set c)):=zh (by unfold oC;rw[zP ug]);clear ug;generalize oC D set c=J at TV ⊢;go_enter Tryz.func154,Tryz.ntmps154;go_wp2_with (first|(go_at_call 160;refine HS.o.mono ?_;rintro e' w1 ⟨rfl,rfl⟩))
   go_loopw [8,9] (λs8 s9 wr=>∃ (k:Nat) (o:List Nat) (ao:Option Addr) (cap:Nat),s9=.int .i64 k/\s8=.slice ao o.length cap/\1<=k/\k<=D.rL.length/\o=(List.range k).filter (oD (D.rL.map (·.2)) D.fL set c)/\pJ w1.heap.size (.slice ao o.length cap) (eX o) w1 wr) (λ_ s9 _=>D.rL.length-(RowKit.intOf s9).toNat)
   case atStart=>exact⟨1,[],none,0,rfl,rfl,zR _,HX.o.1.1,by simp[List.range_succ,oD],cW.nil _,λg hg=>(by cases hg),zBr _ _⟩
   case round=>
    obtain⟨k,o,ao,cap,rfl,rfl,Kl,hk,ho,hN⟩:=hrel;have HO:=zh ho;have HN:=zh hN;have X6:o.length<=65:=by
     rw[ho];have:=List.length_filter_le (oD (D.rL.map (·.2)) D.fL set c) (List.range k);rw[List.length_range] at this;have:=HX.o.1.2.1;omega
    have hr:=H.o.below hN.2.2;obtain⟨c0,_,c2,_⟩:=hr.cells;have kz:=hr.lt;obtain⟨aoR,cR,XD⟩:=bM hr.rR;clear ho;by_cases Hf:k<D.rL.length
    . have zl:(k:Int)<(D.rL.length:Int):=by omega
      have Xe:=zW k (by have:=HX.o.1;omega);obtain⟨gR,cR',u,eR,lgR,hu,cgR⟩:=qE hr.rR Hf;rw[eR] at c0;obtain⟨p,hp,Dq⟩:∃ p,D.rL[k]?=some p/\p.1=u:=by
       rw[List.getElem?_map] at hu;cases hq:D.rL[k]? with
       | none=>rw[hq] at hu;cases hu
       | some p=>rw[hq] at hu;cases hu;exact⟨p,rfl,rfl⟩
      have tu:=hr.rr p (zM hp);obtain⟨aou,cu,tD⟩:=iT tu;rw[<-Dq,tD] at cgR;rw[tD] at tu;have tM:=zh (rin_any _ p.2 c wr tu (HX.o.2.2.2.2 p (zM hp)));have yp:inCl ((D.rL.map (·.2)).getD k []) c=inCl p.2 c:=by
       rw[zLf,List.getElem?_map,hp];rfl
      have QM:zH ((List.range (k+1)).filter (oD (D.rL.map (·.2)) D.fL set c)=o++(if (inCl p.2 c&&set.any λi=>decide (k∈D.fL.getD i []))=true then[k] else[])):=zh (by
       rw[zfN,<-HO.o];unfold oD;rw[yp,decide_eq_true Kl,Bool.true_and])
      clear hu hp Dq tD tu yp eR XD;generalize inCl p.2 c=m at tM QM;have CV:=zh hN;clear hN;cases m with
      | false=>
       have V1:zH (o=(List.range (k+1)).filter (oD (D.rL.map (·.2)) D.fL set c)):=zh (by rw[QM.o];simp);clear QM;go_wp2_with (first|(go_at_call 170;refine tM.o.mono ?_;rintro e' w2 ⟨rfl,rfl⟩));go_roundw
       case rel=>exact⟨k+1,o,ao,cap,by go_num,rfl,by omega,by omega,V1.o,HN.o⟩
       case measure=>(simp[zI]<;>omega)
      | true=>
       rw[Bool.true_and] at QM;have HR:=zh hr;clear hr;go_upto_region 10 with (go_at_call 170;refine tM.o.mono ?_;rintro e' w2 ⟨rfl,rfl⟩)
       clear c0 c2 kz cgR lgR;go_wp2_with (fail);go_loopw [8,11] (λs8 vv wr=>∃ i:Nat,vv=.int .i64 i/\s8=.slice ao o.length cap/\i<=set.length/\(∀ j,j<i->decide (k∈D.fL.getD (set.getD j 0) [])=false)/\pJ w1.heap.size (.slice ao o.length cap) (eX o) w1 wr) (λ_ vv _=>set.length-(RowKit.intOf vv).toNat)
       case atStart=>exact⟨0,rfl,rfl,by omega,λj hj=>by omega,HN.o⟩
       case round=>
        obtain⟨i,rfl,rfl,hi,xd,FA⟩:=hrel;have K9:=zh xd;have uv:=zh FA;clear xd;have hr:=H.o.below FA.2.2;by_cases Yc:i<set.length
        . have zli:(i:Int)<(set.length:Int):=by omega
          have ui:=zW i (by have:=HX.o.2.2.1;omega);obtain⟨gs,cs',e,lgs,cgs⟩:=sH (HV.o.below FA.2.2) (by rw[bO];exact Yc);rw[bO] at e;cases e;rw[zar Yc] at cgs;have hx:=HX.o.2.1 _ (uF Yc);have yc:zH (k∈D.fL.getD (set.getD i 0) []->(set.any λi=>decide (k∈D.fL.getD i []))=true):=zh (λhm=>any_idx (p:=λi=>decide (k∈D.fL.getD i [])) Yc (decide_eq_true hm))
          have uw:zH (¬ k∈D.fL.getD (set.getD i 0) []->∀ j,j<i+1->decide (k∈D.fL.getD (set.getD j 0) [])=false):=zh (λhm j hj=>by
           by_cases e:j=i
           . subst e;exact decide_eq_false hm
           exact K9.o j (by omega))
          generalize set.getD i 0=x at cgs hx yc uw;obtain⟨_,_,c2,_⟩:=hr.cells;obtain⟨gF,cF,u,eF,lgF,hu,JR⟩:=qE hr.fR hx;rw[eF] at c2;have kz:=hr.lt;have Jk:=hr.fli x u hu;obtain⟨aou,cu,tD⟩:=Jk.form;subst tD;have zx:(x:Int)<(D.fL.length:Int):=by omega
          have Qz:(eX (D.fL.getD x [])).length<=1000:=by
           rw[bO];refine HX.o.2.2.2.1 _ ?_;rw[zLf,zLe hx];exact List.getElem_mem hx
          have HK:=zh (λn=>has_any _ (eX (D.fL.getD x [])) k (wr.drewN n) (Jk.below (aV (zBr _ wr) n)) (zT Qz (by decide)));have VJ:decide ((k:Int)∈eX (D.fL.getD x []))=decide (k∈D.fL.getD x []):=decide_eq_decide.2 mem_ints;rw[VJ] at HK;have Nb:=zh (λn=>(aV (zBr wr.heap.size wr) n));clear VJ Qz Jk hu eF hr FA;generalize (eX (D.fL.getD x [])).length=nu at HK JR;by_cases hm:k∈D.fL.getD x []
          . rw[decide_eq_true hm] at HK
            have V1:zH (o++[k]=(List.range (k+1)).filter (oD (D.rL.map (·.2)) D.fL set c)):=zh (by rw[QM.o,zP (yc.o hm)]);clear hm yc uw QM;go_upto_region 13 with (fail)
            go_quiet ((go_at_call 153;exact Calls.quiet_of_same (HK.o _)));have pj:zH (pJ w1.heap.size (.slice ao o.length cap) (eX o) w1 (wr.drewN nq)):=zh ⟨uv.o.1.below (Nb.o nq),uv.o.2.1,uv.o.2.2.trans ((Nb.o nq).mono uv.o.2.2.size)⟩;clear cgs JR c2 lgs lgF kz HK;generalize wr.drewN nq=w4 at pj ⊢;have Ch:w4.ownsRow 0 3 1 (.slice ao o.length cap) o.length (dE (eX o)):=by have:=pj.o.1;unfold cW at this;rwa [bO] at this
            have xi:=zh Ch;clear Ch;go_wp2_with (first|(at_builtin;refine bK _ rfl _ _ rfl mD (.slice ao o.length cap) o.length (dE (eX o)) (by rfl) (by exact aZ xi.o ((zBr _ _).alloc (zR _) _)) ⟨w4.heap.size,0,none⟩ 1 1 [.int .i64 k] (by rfl) (by rfl) (cM _ #[.int .i64 k] _ _ rfl) (by simp[Value.oneCell']) (by decide) (by omega) (by decide) ?_;intro v5 w5 Yu KZ AC;obtain⟨g5,Vs,rfl⟩:=bV Yu;have H5:=zh (zAi Yu (zAi KZ AC));clear Yu KZ AC))
            have CL:zH (pJ w1.heap.size (.slice (some ⟨g5,0,none⟩) (o++[k]).length Vs) (eX (o++[k])) w1 w5):=zh (by
             have Z3:=H5.o.1;have Qc:=pj.o.2.2.size;refine⟨?_,?_,?_⟩
             . unfold cW dE
               rw[bO,ints_snoc,List.map_append,zLn];exact Z3
             . exact fW H5.o.2.2 pj.o.2.1 (by simp;omega)
             exact gE (pj.o.2.2.trans ((zBr _ w4).alloc Qc _)) H5.o.2.1 (by simp;omega) pj.o.2.1)
            clear H5 xi;go_roundw
            case rel=>exact⟨k+1,o++[k],some ⟨g5,0,none⟩,Vs,by go_num,by simp,by omega,by omega,V1.o,CL.o⟩
            case measure=>(simp[zI]<;>omega)
          rw[decide_eq_false hm] at HK
          have V1:=zh (uw.o hm);clear hm yc uw;go_upto_region 13 with (fail)
          go_quiet ((go_at_call 153;exact Calls.quiet_of_same (HK.o _)));go_wp2_with (fail);go_roundw
          case rel=>exact⟨i+1,by go_num,rfl,by omega,V1.o,uv.o.1.below (Nb.o _),uv.o.2.1,uv.o.2.2.trans ((Nb.o _).mono uv.o.2.2.size)⟩
          case measure=>(simp[zI]<;>omega)
        have zli:¬ (i:Int)<(set.length:Int):=by omega
        have V1:zH (o=(List.range (k+1)).filter (oD (D.rL.map (·.2)) D.fL set c)):=zh (by
         rw[QM.o,any_none (p:=λi=>decide (k∈D.fL.getD i [])) (λj hj=>K9.o j (by omega))];simp)
        clear hr FA;go_wp2_with (fail);go_roundw
        case rel=>exact⟨k+1,o,ao,cap,by go_num,rfl,by omega,by omega,V1.o,uv.o⟩
        case measure=>(simp[zI]<;>omega)
    have zl:¬ (k:Int)<(D.rL.length:Int):=by omega
    have HJ:zH (J=o):=zh (by rw[TV.o,HO.o,show k=D.rL.length by omega]);rw[XD] at c0;clear hr XD hN;go_wp2_with (fail);go_ret;rw[HJ.o];exact⟨ao,cap,rfl,HN.o⟩
 have DR:cH c=false:=by simpa using ug
 rw[DR] at HS;have TV:zH (oC D set c=[]):=zh (by unfold oC;rw[zN ug]);clear ug DR;generalize oC D set c=J at TV ⊢;go_enter Tryz.func154,Tryz.ntmps154;go_wp2_with (first|(go_at_call 160;refine HS.o.mono ?_;rintro e' w1 ⟨rfl,rfl⟩));go_ret;rw[TV.o];exact⟨none,0,rfl,cW.nil _,λg hg=>(by cases hg),zBr _ _⟩
theorem qR {α:Type} [DecidableEq α]:∀ (l t:List α),l.Nodup->(∀ x∈l,x∈t)->l.length<=t.length
 | [],t,_,_=>zZ _
 | a::l,t,h,hs=>by
  have ha:a∈t:=hs a (by simp);rw[List.nodup_cons] at h;have:=qR l (t.erase a) h.2 (λx hx=>by
   have qo:x≠a:=λe=>h.1 (e▸hx);exact (List.mem_erase_of_ne qo).2 (hs x (by simp[hx])))
  have h3:=List.length_erase_of_mem ha;have h4:0<t.length:=List.length_pos_of_mem ha;simp only[List.length_cons];omega
theorem yI (h:l.Pairwise (· < ·)):l.Nodup:=h.imp (λXz e=>by omega)
structure TKp (tb:Nat) (w w':World):Prop where
 os:w'.os=w.os
 tape:w'.tape=w.tape
 output:w'.output=w.output
 size:w.heap.size<=w'.heap.size
 keep:∀ b,b<w.heap.size->b≠tb->w'.heap[b]?=w.heap[b]?
theorem TKp.of_below {w':World} (h:Below w.heap.size w w'):TKp tb w w':=⟨h.os,h.tape,h.output,h.size,λb hb _=>h.block b hb⟩
theorem TKp.trans {u v:World} (h:TKp tb u v) (k:TKp tb v w):TKp tb u w:=⟨k.os.trans h.os,k.tape.trans h.tape,k.output.trans h.output,zT h.size k.size,λb hb hn=>(k.keep b (zLd hb h.size) hn).trans (h.keep b hb hn)⟩
theorem TKp.set (tb o:Nat) (u:Value) (w:World):TKp tb w (w.setCell ⟨tb,o,none⟩ u):=⟨rfl,rfl,rfl,by simp[World.setCell],λb _ hb=>aG _ _ _ _ hb⟩
theorem eE {b:Nat} {c1 c2:Array Value} {t1 t2:TypeId} (h1:w.heap[b]?=some (.cells c1 t1 (0,0))) (h2:w.heap[b]?=some (.cells c2 t2 (0,0))):t1=t2:=by
 rw[h1] at h2;injection h2 with h2
 injection h2
theorem fV.ne {D:TD} {S:TS} (h:fV tb D S w) {size g:Nat} (hr:w.ownsRow 0 e size v n xs) (he:e≠277) (hg:v.ownBlock=some g):g≠tb:=λe2=>by
 subst e2;obtain⟨cs,h2⟩:=dK hr hg;exact he (eE h2 h.blk)
theorem fV.setC {D:TD} {S:TS} (h:fV tb D S w) (hv:cW w v l):fV tb {D with cU:=l} {S with vC:=v} (w.setCell ⟨tb,3,none⟩ v):=by
 have hk:∀ g,g≠tb->(w.setCell ⟨tb,3,none⟩ v).heap[g]?=w.heap[g]?:=λg hg=>aG _ _ _ _ hg;have hl:∀ {u:Value} {l:List Int},cW w u l->cW (w.setCell ⟨tb,3,none⟩ v) u l:=λhu=>aU hu λg hg=>hk g (h.ne hu (by decide) hg)
 exact⟨by rw[aC w tb 3 _ _ _ _ h.blk];rfl,aU h.rR λg hg=>hk g (h.ne h.rR (by decide) hg),λp hp=>aU (h.rr p hp) λg hg=>hk g (h.ne (h.rr p hp) (by decide) hg),hl h.lR,aU h.fR λg hg=>hk g (h.ne h.fR (by decide) hg),λi u hu=>hl (h.fli i u hu),hl hv,aU h.srow λg hg=>hk g (h.ne h.srow (by decide) hg),λi u hu=>hl (h.sli i u hu),aU h.grow λg hg=>hk g (h.ne h.grow (by decide) hg),λi u hu=>hl (h.gli i u hu),h.a1,h.a2⟩
def vY (D:TD) (i k:Nat) (l:List Int):Prop:=l.Nodup/\∀ x,x∈l↔x∈bX\/(∃ p∈D.rL.take i,jJ p.2 x)\/(∃ p,D.rL[i]?=some p/\jJ (p.2.take k) x)
theorem zaE {l:Rng} {r:Int×Int} (h:l[k]?=some r) (x:Int):jJ (l.take (k+1)) x↔jJ (l.take k) x\/(x=r.1\/(r.2<1114111/\x=r.2+1)):=by
 unfold jJ;rw[List.take_add_one,h];simp only[Option.toList_some,zMa,zMs];constructor
 . rintro⟨q,hq|rfl,hx⟩
   . exact .inl ⟨q,hq,hx⟩
   exact .inr hx
 rintro (⟨q,hq,hx⟩|hx)
 . exact⟨q,.inl hq,hx⟩
 exact⟨r,.inr rfl,hx⟩
theorem vY.zero (D:TD):vY D 0 0 bX:=by
 refine⟨by decide,λx=>⟨.inl,?_⟩⟩;rintro (h|⟨p,hp,_⟩|⟨p,_,r,hr,_⟩)
 . exact h
 . simp at hp
 simp at hr
theorem vY.next {D:TD} {p:Value×Rng} (hp:D.rL[i]?=some p) (hk:p.2.length<=k) (h:vY D i k l):vY D (i+1) 0 l:=by
 refine⟨h.1,λx=> ?_⟩;rw[h.2];have e:D.rL.take (i+1)=D.rL.take i++[p]:=by rw[List.take_add_one,hp];rfl
 rw[e];simp only[zMa,zMs];constructor
 . rintro (h|⟨q,hq,hx⟩|⟨q,hq,hx⟩)
   . exact .inl h
   . exact .inr (.inl ⟨q,.inl hq,hx⟩)
   rw[hp] at hq;cases hq
   rw[List.take_of_length_le hk] at hx;exact .inr (.inl ⟨p,.inr rfl,hx⟩)
 rintro (h|⟨q,hq|rfl,hx⟩|⟨q,_,r,hr,_⟩)
 . exact .inl h
 . exact .inr (.inl ⟨q,hq,hx⟩)
 . exact .inr (.inr ⟨q,hp,by rw[List.take_of_length_le hk];exact hx⟩)
 simp at hr
theorem vY.step {D:TD} {p:Value×Rng} {r:Int×Int} (hp:D.rL[i]?=some p) (hr:p.2[k]?=some r) (h:vY D i k l):
 (r.2<1114111->vY D i (k+1) (cY (cY l [r.1]) [r.2+1]))/\(¬ r.2<1114111->vY D i (k+1) (cY l [r.1])):=by
 have key:∀ x,(x∈bX\/(∃ p∈D.rL.take i,jJ p.2 x)\/(∃ p,D.rL[i]?=some p/\jJ (p.2.take (k+1)) x))↔x∈l\/(x=r.1\/(r.2<1114111/\x=r.2+1)):=λx=>by
  rw[h.2];constructor
  . rintro (h|h|⟨q,hq,hx⟩)
    . exact .inl (.inl h)
    . exact .inl (.inr (.inl h))
    rw[hp] at hq;cases hq
    rcases (zaE hr x).1 hx with hx|hx
    . exact .inl (.inr (.inr ⟨p,hp,hx⟩))
    exact .inr hx
  rintro ((h|h|⟨q,hq,hx⟩)|hx)
  . exact .inl h
  . exact .inr (.inl h)
  . rw[hp] at hq;cases hq
    exact .inr (.inr ⟨p,hp,(zaE hr x).2 (.inl hx)⟩)
  exact .inr (.inr ⟨p,hp,(zaE hr x).2 (.inr hx)⟩)
 refine⟨λHf=>⟨jC (jC h.1),λx=> ?_⟩,λHf=>⟨jC h.1,λx=> ?_⟩⟩
 . rw[key,kL,kL,zMs,zMs,or_assoc]
   simp[Hf]
 rw[key,kL,zMs]
 simp[Hf]
theorem vY.sub {D:TD} (hT:∀ x,x∈T↔x∈bX\/∃ p∈D.rL,jJ p.2 x) (h:vY D i k l):(∀ x∈l,x∈T)/\l.length<=T.length:=by
 have hs:∀ x∈l,x∈T:=λx hx=>by
  rw[hT]
  rcases (h.2 x).1 hx with h|⟨p,hp,hx⟩|⟨p,hp,r,hr,hx⟩
  . exact .inl h
  . exact .inr ⟨p,List.mem_of_mem_take hp,hx⟩
  exact .inr ⟨p,zM hp,r,List.mem_of_mem_take hr,hx⟩
 exact⟨hs,qR l T h.1 hs⟩
theorem vY.all {D:TD} (hT:∀ x,x∈T↔x∈bX\/∃ p∈D.rL,jJ p.2 x) (h:vY D i 0 l) (hi:D.rL.length<=i):∀ x,x∈l↔x∈T:=λx=>by
 rw[h.2,hT,List.take_of_length_le hi];constructor
 . rintro (h|h|⟨p,hp,_⟩)
   . exact .inl h
   . exact .inr h
   rw[zGn hi] at hp;cases hp
 rintro (h|h)
 . exact .inl h
 exact .inr (.inl h)
def sP (o:List Int):Int:=o.getD (o.length-1) 0
def yY (o:List Int) (x:Int):Prop:=o.length=0\/sP o<x
structure OutI (l o:List Int):Prop where
 rise:o.Pairwise (· < ·)
 sub:∀ x∈o,x∈l
 all:∀ x∈l,x∈o\/yY o x
theorem last_max (h:o.Pairwise (· < ·)) {x:Int} (hx:x∈o):x<=sP o:=by
 obtain⟨j,hj,e⟩:=oS.1 hx;unfold sP;by_cases Yb:j=o.length-1
 . rw[<-Yb,e];exact Int.le_refl _
 have h1:=List.pairwise_iff_getElem.1 h j (o.length-1) hj (by omega) (by omega)
 rw[zLf,zLe hj] at e;rw[zLf,zLe (show o.length-1<o.length by omega)];simp only[Option.getD_some] at e ⊢;omega
theorem OutI.nil (l:List Int):OutI l []:=⟨List.Pairwise.nil,λx hx=>by simp at hx,λx _=>.inr (.inl rfl)⟩
def zdy (l o:List Int) (i:Nat) (b:Int):Prop:=(b= -1/\∀ j,j<i->¬ yY o (l.getD j 0))\/(b∈l/\yY o b/\∀ j,j<i->yY o (l.getD j 0)->b<=l.getD j 0)
theorem OutI.push (h:OutI l o) (hb:b∈l) (hc:yY o b) (hm:∀ j,j<l.length->yY o (l.getD j 0)->b<=l.getD j 0):OutI l (o++[b]):=by
 have Km:sP (o++[b])=b:=by
  unfold sP;simp[zLf]
 refine⟨?_,λx hx=> ?_,λx hx=> ?_⟩
 . rw[List.pairwise_append]
   refine⟨h.rise,by simp,λx hx y hy=> ?_⟩;rw[zMs] at hy;subst hy
   rcases hc with hc|hc
   . rw[List.length_eq_zero_iff] at hc
     rw[hc] at hx;cases hx
   have:=last_max h.rise hx;omega
 . rcases List.mem_append.1 hx with hx|hx
   . exact h.sub x hx
   rw[zMs] at hx;subst hx;exact hb
 rcases h.all x hx with h1|h1
 . exact .inl (List.mem_append_left _ h1)
 obtain⟨j,hj,e⟩:=oS.1 hx
 have:=hm j hj (by rw[e];exact h1);rw[e] at this;by_cases Im:x=b
 . exact .inl (by simp[Im])
 exact .inr (.inr (by rw[Km];omega))
theorem OutI.done (h:OutI l o) (hl:l.Nodup) (hT:T.Pairwise (· < ·)) (hm:∀ x,x∈l↔x∈T) (hd:l.length<=o.length\/∀ j,j<l.length->¬ yY o (l.getD j 0)):o=T:=by
 refine qG o T h.rise hT λx=> ?_;rw[<-hm x];refine⟨h.sub x,λhx=> ?_⟩
 rcases hd with hd|hd
 . by_cases ho:x∈o
   . exact ho
   have:=qR (x::o) l (List.nodup_cons.2 ⟨ho,yI h.rise⟩) (λy hy=>by
    rcases List.mem_cons.1 hy with rfl|hy
    . exact hx
    exact h.sub y hy)
   simp only[List.length_cons] at this;omega
 rcases h.all x hx with h1|h1
 . exact h1
 obtain⟨j,hj,e⟩:=oS.1 hx
 exact absurd (by rw[e];exact h1) (hd j hj)
theorem li_one (w:World) (x:Int):cW (w.alloc (.cells #[.int .i64 x] 3)) (.slice (some ⟨w.heap.size,0,none⟩) 1 1) [x]:=
 ⟨rfl,.inr ⟨w.heap.size,1,_,rfl,zZ _,bR _ _ _ rfl,zR _,by decide,rfl,rfl⟩⟩
def mQ (w:World) (v:Value) (l:List Int) (w':World):Prop:=cW w' v l/\(∀ g,v.ownBlock=some g->w.heap.size<=g)/\Below w.heap.size w w'
theorem mQ.later (h:mQ w v l w1) (hb:Below w1.heap.size w1 w2):mQ w v l w2:=⟨h.1.below hb,h.2.1,h.2.2.trans (hb.mono h.2.2.size)⟩
theorem mQ.new {m:List Int} (h:mQ w u m w1) (hn:pJ n v l w1 w2) (hw:n=w1.heap.size):mQ w v l w2:=by
 subst hw;exact⟨hn.1,λg hg=>zT h.2.2.size (hn.2.1 g hg),h.2.2.trans (hn.2.2.mono h.2.2.size)⟩
theorem six_new (w:World):mQ w (.slice (some ⟨w.heap.size,0,none⟩) 6 6) bX (w.alloc (.cells #[.int .i64 0,.int .i64 128,.int .i64 2048,.int .i64 55296,.int .i64 57344,.int .i64 65536] 3)):=
 ⟨⟨rfl,.inr ⟨w.heap.size,6,_,rfl,zZ _,bR _ _ _ rfl,zR _,by decide,rfl,rfl⟩⟩,λg hg=>by cases hg;exact zR _,(zBr _ w).alloc (zR _) _⟩
theorem best_skip (h:zdy l o i b) (hc:¬ yY o (l.getD i 0)):zdy l o (i+1) b:=by
 rcases h with⟨h1,h2⟩|⟨h1,h2,h3⟩
 . exact .inl ⟨h1,λj hj=>by
    by_cases e:j=i
    . subst e;exact hc
    exact h2 j (by omega)⟩
 exact .inr ⟨h1,h2,λj hj dp=>by
  by_cases e:j=i
  . subst e;exact absurd dp hc
  exact h3 j (by omega) dp⟩
theorem best_take (h:zdy l o i b) (hi:i<l.length) (hc:yY o (l.getD i 0)) (hb:b<0\/l.getD i 0<b) (vn:∀ x∈l,0<=x):zdy l o (i+1) (l.getD i 0):=by
 refine .inr ⟨oS.2 ⟨i,hi,rfl⟩,hc,λj hj dp=> ?_⟩;by_cases e:j=i
 . subst e;exact Int.le_refl _
 rcases h with⟨h1,h2⟩|⟨h1,h2,h3⟩
 . exact absurd dp (h2 j (by omega))
 have h4:=h3 j (by omega) dp
 have h5:=vn b h1;omega
theorem best_keep (h:zdy l o i b) (hb:¬ (b<0\/l.getD i 0<b)):zdy l o (i+1) b:=by
 rcases h with⟨h1,h2⟩|⟨h1,h2,h3⟩
 . omega
 exact .inr ⟨h1,h2,λj hj dp=>by
  by_cases e:j=i
  . subst e;omega
  exact h3 j (by omega) dp⟩
def CutO2 (tb:Nat) (D:TD) (S:TS) (T:List Int) (w w':World):Prop:=∃ vC,fV tb {D with cU:=T} {S with vC:=vC} w'/\TKp tb w w'
theorem CutO2.end {D:TD} {S:TS} {w':World} (h:fV tb D S w) (ho:mQ w v o w') (e:o=T):CutO2 tb D S T w (w'.setCell ⟨tb,3,none⟩ v):=by
 subst e;exact⟨v,(h.below ho.2.2).setC ho.1,(TKp.of_below ho.2.2).trans (TKp.set _ _ _ _)⟩
theorem rcut_any (tb:Nat) (D:TD) (S:TS) (w:World) (h:fV tb D S w) (T:List Int) (hT:∀ x,x∈T↔x∈bX\/∃ p∈D.rL,jJ p.2 x) (hTr:T.Pairwise (· < ·)) (hTl:T.length<=50000)
 (hTp:∀ x∈T,0<=x) (hn:D.rL.length<=65) (Qz:∀ p∈D.rL,p.2.length<=9223372036854775807) (Vd:∀ p∈D.rL,∀ r∈p.2,0<=r.1/\r.1<=1114111/\0<=r.2/\r.2<=1114111):
 Calls Tryz.prog 129 #[bJ tb] w λe w'=>e=.returned (.tuple #[])/\CutO2 tb D S T w w':=by
 have H:=zh h;have HX:=zh (zAi hTr (zAi hTl (zAi hTp (zAi hn (zAi Qz Vd)))));have HT:=zh hT;clear h hT hTr hTl hTp hn Qz Vd;unfold bJ;go_enter Tryz.func129,Tryz.ntmps129;go_wp2_with (fail);go_loopw [2,3] (λs2 s3 wr=>∃ (i:Nat) (l:List Int) (ao:Option Addr) (cap:Nat),s3=.int .i64 i/\s2=.slice ao l.length cap/\i<=D.rL.length/\vY D i 0 l/\mQ w (.slice ao l.length cap) l wr) (λ_ s3 _=>D.rL.length-(RowKit.intOf s3).toNat)
 case atStart=>exact⟨0,bX,some ⟨w.heap.size,0,none⟩,6,rfl,rfl,by omega,vY.zero D,six_new w⟩
 case round=>
  obtain⟨i,l,ao,cap,rfl,rfl,hi,QY,X6⟩:=hrel;have T1:=zh QY;have JK:=zh X6;have hr:=H.o.below X6.2.2;obtain⟨c0,_,_,c3,_⟩:=hr.cells;obtain⟨aoR,cR,XD⟩:=bM hr.rR;by_cases Hf:i<D.rL.length
  . have zl:(i:Int)<(D.rL.length:Int):=by omega
    have Xe:=zW i (by have:=HX.o.2.2.2.1;omega);obtain⟨p,hp⟩:=zG D.rL i Hf;have Oy:=zM hp;have A4:l.length<=50000:=zT (QY.sub HT.o).2 HX.o.2.1;rw[XD] at c0;have HP:=zh hp;clear hr XD QY X6 hp;go_wp2_with (fail)
    go_loopw [2,4] (λs2 s4 wr=>∃ (k:Nat) (l:List Int) (ao:Option Addr) (cap:Nat),s4=.int .i64 k/\s2=.slice ao l.length cap/\k<=p.2.length/\vY D i k l/\mQ w (.slice ao l.length cap) l wr) (λ_ s4 _=>p.2.length-(RowKit.intOf s4).toNat)
    case atStart=>exact⟨0,l,ao,cap,rfl,rfl,by omega,T1.o,JK.o⟩
    case round=>
     clear T1 JK A4 c0 c3;obtain⟨k,l,ao,cap,rfl,rfl,hk,QY,X6⟩:=hrel;have T1:=zh QY;have JK:=zh X6;have hr:=H.o.below X6.2.2;have A4:l.length<=50000:=zT (QY.sub HT.o).2 HX.o.2.1;have xp:=HX.o.2.2.2.2.1 p Oy;obtain⟨c0,_,_,c3,_⟩:=hr.cells;obtain⟨gR,cR',u,eR,lgR,hu,cgR⟩:=qE hr.rR Hf;rw[eR] at c0;have Dq:p.1=u:=by
      rw[List.getElem?_map,HP.o] at hu;cases hu;rfl
     have tu:=hr.rr p Oy;by_cases Y1:k<p.2.length
     . have zk:(k:Int)<(p.2.length:Int):=by omega
       have Kv:=zW k (by omega);obtain⟨r,jm⟩:=zG p.2 k Y1;have jj:=HX.o.2.2.2.2.2 p Oy r (zM jm);have Hq:=zh (QY.step HP.o jm);obtain⟨gu,cu,eu,lgu,cu0,cu1⟩:∃ g c,p.1=.slice (some ⟨g,0,none⟩) p.2.length c/\g<wr.heap.size/\wr.cell? ⟨g,k*2,none⟩=some (.int .i64 r.1)/\wr.cell? ⟨g,k*2+1,none⟩=some (.int .i64 r.2):=by
        rcases bD tu with⟨_,h0⟩|⟨g,c,e,_,hg⟩
        . omega
        have Dp:=tu
        rw[e] at Dp;obtain⟨q0,q1⟩:=zaH p.2 k r jm;exact⟨g,c,e,hg,aE Dp _ _ q0,aE Dp _ _ q1⟩
       rw[<-Dq,eu] at cgR;obtain⟨lo,yn⟩:=r;dsimp only at jj cu0 cu1 Hq;clear hr eR hu Dq tu eu QY X6 jm;go_upto_region 8 with (fail)
       have Qi:=(zBr wr.heap.size wr).alloc (zR _) (.cells #[.int .i64 lo,.int .i64 yn] 304);have uy:=zh (JK.o.later Qi);have TR:zH ((wr.alloc (.cells #[.int .i64 lo,.int .i64 yn] 304)).heap[wr.heap.size]?=some (.cells #[.int .i64 lo,.int .i64 yn] 304 (0,0))):=zh (bR _ _ _ rfl);clear Qi c0 c3 cgR cu0 cu1 lgR lgu JK;generalize wr.alloc (.cells #[.int .i64 lo,.int .i64 yn] 304)=w3 at uy TR ⊢;generalize wr.heap.size=A at TR ⊢;have a0:w3.cell? ⟨A,0,none⟩=some (.int .i64 lo):=by rw[aB _ _ 0 _ _ _ TR.o];rfl
       have lA:=aA TR.o;have Qa:=(zBr w3.heap.size w3).alloc (zR _) (.cells #[.int .i64 lo] 3);have HK:=zh (jO _ _ _ _ (w3.alloc (.cells #[.int .i64 lo] 3)) (uy.o.later Qa).1 (li_one w3 lo) (by omega) (by simp));have EY:=zh (uy.o.later Qa);have Yn:=zh Qa;clear Qa;obtain⟨J,hJ⟩:=zE (cY l [lo]);rw[<-hJ] at HK Hq;have MA:J.length<=50001:=by rw[hJ];have:=zca [lo] l;simp at this;omega
       clear hJ;go_upto_region 9 with (go_at_call 128;refine HK.o.mono ?_;rintro e' w5 ⟨KN,co5,rfl,hn⟩;have CL:=zh hn;clear hn)
       have EZ:=zh (EY.o.new CL.o rfl);have RN:=((Yn.o.trans (CL.o.2.2.mono Yn.o.size)).block A lA).trans TR.o;have a1:w5.cell? ⟨A,1,none⟩=some (.int .i64 yn):=by rw[aB _ _ 1 _ _ _ RN];rfl
       clear a0 lA TR uy EY Yn CL RN;by_cases je:yn<1114111
       . have xy:=zh (Hq.o.1 je)
         have hwh:IntKind.i64.wrap (yn+1)=yn+1:=zIn _ (by omega);have yd:=(zBr w5.heap.size w5).alloc (zR _) (.cells #[.int .i64 (yn+1)] 3);have E0:=zh (EZ.o.later yd);have HK:=zh (jO _ _ _ _ (w5.alloc (.cells #[.int .i64 (yn+1)] 3)) E0.o.1 (li_one w5 (yn+1)) (by omega) (by simp));clear Hq yd;go_wp2_with (first|(go_at_call 128;refine HK.o.mono ?_;rintro e' w7 ⟨ao7,co7,rfl,hn⟩;have Na:=zh hn;clear hn));go_roundw
         case rel=>exact⟨k+1,_,ao7,co7,by go_num,rfl,by omega,xy.o,E0.o.new Na.o rfl⟩
         case measure=>(simp[zI]<;>omega)
       have xy:=zh (Hq.o.2 (by omega))
       clear Hq;go_wp2_with (fail);go_roundw
       case rel=>exact⟨k+1,J,KN,co5,by go_num,rfl,by omega,xy.o,EZ.o⟩
       case measure=>(simp[zI]<;>omega)
     have zk:¬ (k:Int)<(p.2.length:Int):=by omega
     have QM:=zh (QY.next HP.o (by omega));obtain⟨aou,cu,eu⟩:=iT tu;rw[<-Dq,eu] at cgR;clear hr eR hu Dq tu eu QY X6;go_wp2_with (fail);go_roundw
     case rel=>exact⟨i+1,l,ao,cap,by go_num,rfl,by omega,QM.o,JK.o⟩
     case measure=>(simp[zI]<;>omega)
  have zl:¬ (i:Int)<(D.rL.length:Int):=by omega
  have QN:=QY.all HT.o (by omega);have A4:l.length<=50000:=zT (QY.sub HT.o).2 HX.o.2.1;have J7:=zh (zAi QN QY.1);have vn:∀ x∈l,0<=x:=λx hx=>HX.o.2.2.1 x ((QN x).1 hx);have E7:=zh vn;rw[XD] at c0;clear hr XD QY X6 QN vn T1;go_wp2_with (fail)
  go_loopg [6] l.length (λgh s6 wr=>∃ (G:Nat) (o:List Int) (ao6:Option Addr) (Y8:Nat),G=gh/\s6=.slice ao6 o.length Y8/\G=l.length-o.length/\OutI l o/\mQ w (.slice ao6 o.length Y8) o wr/\mQ w (.slice ao l.length cap) l wr/\∀ g,(Value.slice ao6 o.length Y8).ownBlock=some g->(Value.slice ao l.length cap).ownBlock≠some g)
  case atStart=>exact⟨l.length,[],none,0,rfl,rfl,by simp,OutI.nil l,⟨cW.nil _,λg hg=>(by cases hg),JK.o.2.2⟩,JK.o,λg hg=>(by cases hg)⟩
  case round=>
   clear c0 c3 JK;obtain⟨G,o,ao6,Y8,hG,rfl,RY,Es,Tj,X6,NA⟩:=hrel;have LE:=zh NA;clear NA;have HG:=zh (zAi hG RY);have Rn:=zh Es;have Bp:=zh Tj;have JK:=zh X6;have hr:=H.o.below X6.2.2;obtain⟨_,_,_,c3,_⟩:=hr.cells;have f3:=aM wr tb 3 _ _ hr.blk;have ZX:o.length<=l.length:=qR o l (yI Es.rise) Es.sub;clear hG RY hr;by_cases UK:o.length<l.length
   . have zl2:(o.length:Int)<(l.length:Int):=by omega
     clear Es Tj X6;go_wp2_with (fail);go_loopw [7,8] (λs7 s8 wr=>∃ (i:Nat) (b:Int),s8=.int .i64 i/\s7=.int .i64 b/\i<=l.length/\zdy l o i b/\mQ w (.slice ao6 o.length Y8) o wr/\mQ w (.slice ao l.length cap) l wr) (λ_ s8 _=>l.length-(RowKit.intOf s8).toNat)
     case atStart=>exact⟨0,-1,rfl,rfl,by omega,.inl ⟨rfl,λj hj=>by omega⟩,Bp.o,JK.o⟩
     case round=>
      clear c3 f3 Bp JK;obtain⟨i,b,rfl,rfl,hi,ko,Tj,X6⟩:=hrel;have HBI:=zh ko;have Bp:=zh Tj;have JK:=zh X6;by_cases xm:i<l.length
      . have zi:(i:Int)<(l.length:Int):=by omega
        have ui:=zW i (by omega);obtain⟨gl,cl,e,lgl,cgl⟩:=sH X6.1 xm;cases e;have BD:=zh (λh=>best_skip (i:=i) ko h);have V7:=zh (λh1 h2=>best_take ko xm h1 h2 E7.o);have nx:=zh (λh=>best_keep (i:=i) ko h);generalize l.getD i 0=x at cgl BD V7 nx
        have HQ:zH (∀ n,mQ w (.slice ao6 o.length Y8) o (wr.drewN n)/\mQ w (.slice (some ⟨gl,0,none⟩) l.length cap) l (wr.drewN n)):=zh (λn=>⟨Tj.later (aV (zBr _ wr) n),X6.later (aV (zBr _ wr) n)⟩);have ym:o.length=0\/∃ m g c,o.length=m+1/\ao6=some ⟨g,0,none⟩/\wr.cell? ⟨g,m,none⟩=some (.int .i64 (sP o))/\g<wr.heap.size/\c=Y8:=by
         rcases Nat.eq_zero_or_pos o.length with h0|h0
         . exact .inl h0
         obtain⟨g,c,e,lg,cg⟩:=sH Tj.1 (i:=o.length-1) (by omega)
         cases e;exact .inr ⟨o.length-1,g,Y8,by omega,rfl,cg,lg,rfl⟩
        clear ko Tj X6;have YL:(¬ yY o x/\o.length≠0/\¬ sP o<x)\/(yY o x/\(o.length=0\/(o.length≠0/\sP o<x))/\(b<0\/x<b))\/(yY o x/\(o.length=0\/(o.length≠0/\sP o<x))/\¬ (b<0\/x<b)):=by
         unfold yY;by_cases h1:o.length=0<;>by_cases h2:sP o<x<;>by_cases h3:(b<0\/x<b)<;>simp[h1,h2,h3]
        generalize sP o=la at ym YL
        rcases ym with h0|⟨m,g,_,hm,rfl,cgo,lgo,_⟩
        . have z0:((o.length:Int)==0)=true:=by simp[h0]
          rcases YL with⟨_,h,_⟩|⟨h1,_,h3⟩|⟨h1,_,h3⟩
          . exact absurd h0 h
          . have HN:=zh (V7.o h1 h3)
            clear BD V7 nx h0 h1
            rcases (by omega:b<0\/(¬ b<0/\x<b)) with h4|⟨h4,h5⟩
            all_goals
             clear h3;go_upto_region 17 with (fail)
             go_quiet (fail);go_wp2_with (fail);go_roundw
             case rel=>exact⟨i+1,x,by go_num,rfl,by omega,HN.o,(HQ.o _).1,(HQ.o _).2⟩
             case measure=>(simp[zI]<;>omega)
          have HN:=zh (nx.o h3)
          have h4:¬ b<0:=λh=>h3 (.inl h);have h5:¬ x<b:=λh=>h3 (.inr h);clear BD V7 nx h0 h1 h3;go_upto_region 17 with (fail)
          go_quiet (fail);go_wp2_with (fail);go_roundw
          case rel=>exact⟨i+1,b,by go_num,rfl,by omega,HN.o,(HQ.o _).1,(HQ.o _).2⟩
          case measure=>(simp[zI]<;>omega)
        have z0:((o.length:Int)==0)=false:=beq_eq_false_iff_ne.2 (by omega)
        have Lq:IntKind.i64.wrap ((o.length:Int)-1)=(m:Int):=by rw[zIn _ (by omega)];omega
        have zm:(m:Int)<(o.length:Int):=by omega
        rcases YL with⟨h1,_,h2⟩|⟨h1,h2,h3⟩|⟨h1,h2,h3⟩
        . have HN:=zh (BD.o h1)
          clear BD V7 nx h1 hm;go_upto_region 17 with (fail)
          go_quiet (fail);go_wp2_with (fail);go_roundw
          case rel=>exact⟨i+1,b,by go_num,rfl,by omega,HN.o,(HQ.o _).1,(HQ.o _).2⟩
          case measure=>(simp[zI]<;>omega)
        . have HN:=zh (V7.o h1 h3)
          have h6:la<x:=by omega
          clear BD V7 nx h1 h2 hm
          rcases (by omega:b<0\/(¬ b<0/\x<b)) with h4|⟨h4,h5⟩
          all_goals
           clear h3;go_upto_region 17 with (fail)
           go_quiet (fail);go_wp2_with (fail);go_roundw
           case rel=>exact⟨i+1,x,by go_num,rfl,by omega,HN.o,(HQ.o _).1,(HQ.o _).2⟩
           case measure=>(simp[zI]<;>omega)
        have HN:=zh (nx.o h3)
        have h6:la<x:=by omega
        have h4:¬ b<0:=λh=>h3 (.inl h);have h5:¬ x<b:=λh=>h3 (.inr h);clear BD V7 nx h1 h2 h3 hm;go_upto_region 17 with (fail)
        go_quiet (fail);go_wp2_with (fail);go_roundw
        case rel=>exact⟨i+1,b,by go_num,rfl,by omega,HN.o,(HQ.o _).1,(HQ.o _).2⟩
        case measure=>(simp[zI]<;>omega)
      have zi:¬ (i:Int)<(l.length:Int):=by omega
      have Jm:i=l.length:=by omega
      subst Jm;by_cases hb:b<0
      . have xd:∀ j,j<l.length->¬ yY o (l.getD j 0):=by
         rcases ko with h|h
         . exact h.2
         have:=E7.o b h.1;omega
        have HE:=zh (CutO2.end H.o Tj (Rn.o.done J7.o.2 HX.o.1 J7.o.1 (.inr xd)));have hr:=H.o.below X6.2.2;obtain⟨_,_,_,c3,_⟩:=hr.cells;have f3:=aM wr tb 3 _ _ hr.blk;clear xd ko Tj X6 hr;go_wp2_with (fail);go_end0;exact⟨rfl,HE.o⟩
      have Wt:zH (OutI l (o++[b])):=zh (by
       rcases ko with h|h
       . omega
       exact Rn.o.push h.1 h.2.1 h.2.2)
      have Ch:wr.ownsRow 0 3 1 (.slice ao6 o.length Y8) o.length (dE o):=Tj.1;have xi:=zh Ch;clear ko Tj X6 Ch
      go_wp2_with (first|(at_builtin;refine bK _ rfl _ _ rfl mD (.slice ao6 o.length Y8) o.length (dE o) (by rfl) (by exact aZ xi.o ((zBr _ _).alloc (zR _) _)) ⟨wr.heap.size,0,none⟩ 1 1 [.int .i64 b] (by rfl) (by rfl) (cM _ #[.int .i64 b] _ _ rfl) (by simp[Value.oneCell']) (by decide) (by omega) (by decide) ?_;intro v5 w5 Yu KZ AC;obtain⟨g5,Vs,rfl⟩:=bV Yu;have H5:=zh (zAi Yu (zAi KZ AC));clear Yu KZ AC));have Qc:=Bp.o.2.2.size
      have Dl:∀ g,(Value.slice ao l.length cap).ownBlock=some g->(Value.slice ao6 o.length Y8).ownBlock≠some g:=λg hg he=>LE.o g he hg;have Rm:zH (mQ w (.slice (some ⟨g5,0,none⟩) (o++[b]).length Vs) (o++[b]) w5):=zh (by
       refine⟨?_,?_,?_⟩
       . unfold cW dE
         rw[List.map_append,zLn];exact H5.o.1
       . exact fW H5.o.2.2 Bp.o.2.1 (by simp;omega)
       exact gE (Bp.o.2.2.trans ((zBr _ wr).alloc Qc _)) H5.o.2.1 (by simp;omega) Bp.o.2.1)
      have VV:zH (mQ w (.slice ao l.length cap) l w5/\∀ g,(Value.slice (some ⟨g5,0,none⟩) (o++[b]).length Vs).ownBlock=some g->(Value.slice ao l.length cap).ownBlock≠some g):=zh (by
       have JA:∀ g,(Value.slice ao l.length cap).ownBlock=some g->g<wr.heap.size:=JK.o.1.lt;refine⟨⟨aU JK.o.1 λg hg=> ?_,JK.o.2.1,Rm.o.2.2⟩,λg hg he=> ?_⟩
       . exact dN (JA g hg) H5.o.2.1 (Dl g hg)
       rcases H5.o.2.2 with e|e
       . exact Dl g he (e.symm.trans hg)
       have h9:(Value.slice (some ⟨g5,0,none⟩) (o.length+1) Vs).ownBlock=some g:=hg
       rw[h9] at e;cases e;have:=JA _ he;simp at this;omega)
      clear Dl;clear H5 xi;go_roundg (G-1)
      case rel=>exact⟨G-1,o++[b],some ⟨g5,0,none⟩,Vs,rfl,by simp,by have:=HG.o.2;simp;omega,Wt.o,Rm.o,VV.o.1,VV.o.2⟩
      case measure=>have:=HG.o;omega
   have zl2:¬ (o.length:Int)<(l.length:Int):=by omega
   have HE:=zh (CutO2.end H.o Tj (Es.done J7.o.2 HX.o.1 J7.o.1 (.inl (by omega))));clear Es Tj X6;go_wp2_with (fail);go_end0;exact⟨rfl,HE.o⟩
section
variable {tb:Nat} {D:TD} {S:TS} {w w0 w2:World}
theorem fV.liK (h:fV tb D S w) {b:Option Nat} (hb:∀ g,b=some g->∃ cs,w.heap[g]?=some (.cells cs 39 (0,0))) (hk:∀ g,g<w.heap.size->g≠tb->b≠some g->w2.heap[g]?=w.heap[g]?) (hl:cW w v l):cW w2 v l:=
 aU hl λg hg=>hk g (hl.lt g hg) (h.ne hl (by decide) hg) λe=>by
  obtain⟨cs,h1⟩:=hb g e;obtain⟨cs2,h2⟩:=dK hl hg;exact absurd (eE h1 h2) (by decide)
theorem fV.rgK (h:fV tb D S w) {b:Option Nat} (hb:∀ g,b=some g->∃ cs,w.heap[g]?=some (.cells cs 39 (0,0))) (hk:∀ g,g<w.heap.size->g≠tb->b≠some g->w2.heap[g]?=w.heap[g]?) {size:Nat} (hl:w.ownsRow 0 e size v n xs) (he:e≠277) (CZ:e≠39):w2.ownsRow 0 e size v n xs:=
 aU hl λg hg=>hk g (dP hl g hg) (h.ne hl he hg) λe=>by
  obtain⟨cs,h1⟩:=hb g e;obtain⟨cs2,h2⟩:=dK hl hg;exact absurd (eE h1 h2).symm CZ
theorem ze8 {α:Type} {l:List α} {x u:α} (hl:l.length=n) (h:(l++[x])[i]?=some u):(i<n/\l[i]?=some u)\/(i=n/\u=x):=by
 rcases zLg i l.length with hi|hi
 . rw[zGl hi] at h
   exact .inl ⟨by omega,h⟩
 have h2:=(List.getElem?_eq_some_iff.1 h).1
 simp only[zLn,List.length_singleton] at h2;have e:i=l.length:=by omega
 subst e;simp at h;exact .inr ⟨hl,h.symm⟩
theorem vV {α:Type} {l:List α} {x d:α} :(i<l.length->(l++[x]).getD i d=l.getD i d)/\(i=l.length->(l++[x]).getD i d=x):=by
 refine⟨λh=> ?_,λh=> ?_⟩
 . rw[zLf,zGl h,<-zLf]
 subst h
 simp[zLf]
theorem fV.pushS (h:fV tb D S w) {s:List Nat} (hu:cW w u (eX s)) (Hb:w2.ownsRow 0 39 1 v' (D.sE.length+1) (S.sv++[u])) (XU:∀ g,g<w.heap.size->S.vS.ownBlock≠some g->w2.heap[g]?=w.heap[g]?) (hv:∀ g,v'.ownBlock=some g->S.vS.ownBlock=some g\/w.heap.size<=g):
 fV tb {D with sE:=D.sE++[s]} {S with vS:=v',sv:=S.sv++[u]} (w2.setCell ⟨tb,4,none⟩ v')/\(∀ g,g<w.heap.size->g≠tb->S.vS.ownBlock≠some g->(w2.setCell ⟨tb,4,none⟩ v').heap[g]?=w.heap[g]?):=by
 have hk:∀ g,g<w.heap.size->g≠tb->S.vS.ownBlock≠some g->(w2.setCell ⟨tb,4,none⟩ v').heap[g]?=w.heap[g]?:=λg h1 h2 h3=>by
  rw[aG _ _ _ _ h2,XU g h1 h3]
 have hb:∀ g,S.vS.ownBlock=some g->∃ cs,w.heap[g]?=some (.cells cs 39 (0,0)):=λg hg=>dK h.srow hg;have Yc:∀ {v:Value} {l:List Int},cW w v l->cW (w2.setCell ⟨tb,4,none⟩ v') v l:=λhl=>h.liK hb hk hl;have tB:S.vS.ownBlock≠some tb:=λe=>h.ne h.srow (by decide) e rfl;have DT:∀ g,v'.ownBlock=some g->g≠tb:=λg qn e=>by
  subst e
  rcases hv g qn with e|e
  . exact tB e
  have:=h.lt;omega
 have JA:S.sv.length=D.sE.length:=by have:=h.srow.1;omega
 refine⟨⟨?_,h.rgK hb hk h.rR (by decide) (by decide),λp hp=>h.rgK hb hk (h.rr p hp) (by decide) (by decide),Yc h.lR,?_,λi u hu=>Yc (h.fli i u hu),Yc h.crow,?_,λi x hx=> ?_,?_,λi u hu=>Yc (h.gli i u hu),λg hg=> ?_,h.a2⟩,hk⟩
 . rw[aC w2 tb 4 _ _ _ _ ((XU tb h.lt tB).trans h.blk)];rfl
 . exact aU h.fR λg hg=>hk g (dP h.fR g hg) (h.ne h.fR (by decide) hg) λe=>(h.a1 g e).1 hg
 . have:=aU (w':=w2.setCell ⟨tb,4,none⟩ v') Hb λg hg=>aG _ _ _ _ (DT g hg)
   simpa using this
 . have hx:(S.sv++[u])[i]?=some x:=hx
   show cW _ x (eX ((D.sE++[s]).getD i []))
   rcases ze8 JA hx with⟨h1,h2⟩|⟨h1,rfl⟩
   . rw[vV.1 h1];exact Yc (h.sli i x h2)
   rw[vV.2 h1];exact Yc hu
 . exact aU h.grow λg hg=>hk g (dP h.grow g hg) (h.ne h.grow (by decide) hg) λe=>(h.a1 g e).2 hg
 rcases hv g hg with e|e
 . exact h.a1 g e
 exact⟨λe2=>by have:=dP h.fR g e2;omega,λe2=>by have:=dP h.grow g e2;omega⟩
theorem fV.pushG (h:fV tb D S w) {s:List Int} (hu:cW w u s) (Hb:w2.ownsRow 0 39 1 v' (D.gO.length+1) (S.gv++[u])) (hg:(w.alloc ob).grownBy w2 S.vG.ownBlock) (Hz:v'.ownBlock=S.vG.ownBlock\/v'.ownBlock=some (w.alloc ob).heap.size):
 fV tb {D with gO:=D.gO++[s]} {S with vG:=v',gv:=S.gv++[u]} (w2.setCell ⟨tb,5,none⟩ v')/\(∀ g,g<w.heap.size->g≠tb->S.vG.ownBlock≠some g->(w2.setCell ⟨tb,5,none⟩ v').heap[g]?=w.heap[g]?):=by
 have ye:(w.alloc ob).heap.size=w.heap.size+1:=by simp
 have hk:∀ g,g<w.heap.size->g≠tb->S.vG.ownBlock≠some g->(w2.setCell ⟨tb,5,none⟩ v').heap[g]?=w.heap[g]?:=λg h1 h2 h3=>by
  rw[aG _ _ _ _ h2,dN h1 hg h3]
 have hb:∀ g,S.vG.ownBlock=some g->∃ cs,w.heap[g]?=some (.cells cs 39 (0,0)):=λg hg=>dK h.grow hg;have Yc:∀ {v:Value} {l:List Int},cW w v l->cW (w2.setCell ⟨tb,5,none⟩ v') v l:=λhl=>h.liK hb hk hl;have tB:S.vG.ownBlock≠some tb:=λe=>h.ne h.grow (by decide) e rfl;have hv:∀ g,v'.ownBlock=some g->S.vG.ownBlock=some g\/w.heap.size<=g:=λg qn=>by
  rcases Hz with e|e
  . exact .inl (by rw[<-e];exact qn)
  rw[qn] at e;cases e;exact .inr (by omega)
 have DT:∀ g,v'.ownBlock=some g->g≠tb:=λg qn e=>by
  subst e
  rcases hv g qn with e|e
  . exact tB e
  have:=h.lt;omega
 have JA:S.gv.length=D.gO.length:=by have:=h.grow.1;omega
 refine⟨⟨?_,h.rgK hb hk h.rR (by decide) (by decide),λp hp=>h.rgK hb hk (h.rr p hp) (by decide) (by decide),Yc h.lR,?_,λi u hu=>Yc (h.fli i u hu),Yc h.crow,?_,λi u hu=>Yc (h.sli i u hu),?_,λi x hx=> ?_,λg En=>⟨(h.a1 g En).1,λe=> ?_⟩,λg hg=> ?_⟩,hk⟩
 . rw[aC w2 tb 5 _ _ _ _ ((dN h.lt hg tB).trans h.blk)];rfl
 . exact aU h.fR λg hg=>hk g (dP h.fR g hg) (h.ne h.fR (by decide) hg) λe=>h.a2 g e hg
 . exact aU h.srow λg hg=>hk g (dP h.srow g hg) (h.ne h.srow (by decide) hg) λe=>(h.a1 g hg).2 e
 . have:=aU (w':=w2.setCell ⟨tb,5,none⟩ v') Hb λg hg=>aG _ _ _ _ (DT g hg)
   simpa using this
 . have hx:(S.gv++[u])[i]?=some x:=hx
   show cW _ x ((D.gO++[s]).getD i [])
   rcases ze8 JA hx with⟨h1,h2⟩|⟨h1,rfl⟩
   . rw[vV.1 h1];exact Yc (h.gli i x h2)
   rw[vV.2 h1];exact Yc hu
 . rcases hv g e with e2|e2
   . exact (h.a1 g En).2 e2
   have:=dP h.srow g En;omega
 rcases hv g hg with e|e
 . exact h.a2 g e
 exact λe2=>by have:=dP h.fR g e2;omega
def Priv (S:TS) (v:Value):Prop:=∀ g,v.ownBlock=some g->S.vL.ownBlock≠some g/\S.vC.ownBlock≠some g/\(∀ u∈S.fv,u.ownBlock≠some g)/\(∀ u∈S.sv,u.ownBlock≠some g)/\∀ u∈S.gv,u.ownBlock≠some g
theorem Priv.nil (S:TS):Priv S (.slice none 0 0):=λg hg=>by cases hg
theorem fV.app (h:fV tb D S w) {row:List Int} {x:Int} (hv:cW w v row) (hp:Priv S v) (hg:(w.alloc ob).grownBy w2 v.ownBlock) (Hb:w2.ownsRow 0 3 1 v' (row.length+1) (dE row++[.int .i64 x])) (Hz:v'.ownBlock=v.ownBlock\/v'.ownBlock=some (w.alloc ob).heap.size):
 fV tb D S w2/\cW w2 v' (row++[x])/\Priv S v'/\(∀ g,g<w.heap.size->v.ownBlock≠some g->w2.heap[g]?=w.heap[g]?):=by
 have ye:(w.alloc ob).heap.size=w.heap.size+1:=by simp
 have hk:∀ g,g<w.heap.size->v.ownBlock≠some g->w2.heap[g]?=w.heap[g]?:=λg h1 h2=>dN h1 hg h2;have DI:∀ {e:TypeId} {size n:Nat} {u:Value} {xs:List Value},w.ownsRow 0 e size u n xs->e≠3->w2.ownsRow 0 e size u n xs:=λhu he=>aU hu λg hg=>hk g (dP hu g hg) λe2=>by
  obtain⟨cs,h1⟩:=dK hu hg;obtain⟨cs2,h2⟩:=dK hv e2;exact he (eE h1 h2)
 have Yc:∀ {u:Value} {l:List Int},cW w u l->(∀ g,v.ownBlock=some g->u.ownBlock≠some g)->cW w2 u l:=λhu hn=>aU hu λg hg=>hk g (hu.lt g hg) λe=>hn g e hg;have Xu:∀ {l:List Value} {i:Nat} {u:Value},l[i]?=some u->u∈l:=λh=>zM h
 refine⟨⟨?_,DI h.rR (by decide),λp hp=>DI (h.rr p hp) (by decide),Yc h.lR λg hg=>(hp g hg).1,DI h.fR (by decide),λi u hu=>Yc (h.fli i u hu) λg hg=>(hp g hg).2.2.1 u (Xu hu),Yc h.crow λg hg=>(hp g hg).2.1,DI h.srow (by decide),λi u hu=>Yc (h.sli i u hu) λg hg=>(hp g hg).2.2.2.1 u (Xu hu),DI h.grow (by decide),λi u hu=>Yc (h.gli i u hu) λg hg=>(hp g hg).2.2.2.2 u (Xu hu),h.a1,h.a2⟩,?_,λg qn=> ?_,hk⟩
 . refine (hk tb h.lt λe=> ?_).trans h.blk
   obtain⟨cs,h1⟩:=dK hv e;exact absurd (eE h1 h.blk) (by decide)
 . unfold cW dE
   rw[zLn,List.map_append];exact Hb
 rcases Hz with e|e
 . exact hp g (by rw[<-e];exact qn)
 rw[qn] at e
 cases e;have key:∀ {u:Value} {l:List Int},cW w u l->u.ownBlock≠some (w.alloc ob).heap.size:=λhu e=>by have:=hu.lt _ e;omega
 have dy:∀ {l:List Value} {u:Value},u∈l->∃ i:Nat,l[i]?=some u:=λh=>List.mem_iff_getElem?.1 h;exact⟨key h.lR,key h.crow,λu hu=>by obtain⟨i,hi⟩:=dy hu;exact key (h.fli i u hi),λu hu=>by obtain⟨i,hi⟩:=dy hu;exact key (h.sli i u hi),λu hu=>by obtain⟨i,hi⟩:=dy hu;exact key (h.gli i u hi)⟩
end
structure GrowH (D:TD) (L:gK):Prop where
 ref:RefL (D.rL.map (·.2)) D.fL D.last L
 one:1<=L.cL.length
 cU:D.cU=bB L.cL
 rng:∀ x∈D.cU,0<=x/\x<=1114111
 lc:D.cU.length<=50000
 fL:∀ r∈D.fL,r.length<=1000
 rl:∀ p∈D.rL,p.2.length<=9223372036854775807
theorem after_toS {D:TD} {L:gK} (h:GrowH D L) (s:aW) (c:Int):oC D (fM s L.cL.length) c=fM (qX L s c) L.cL.length:=by
 have hl:=h.ref.ln;rw[List.length_map] at hl;unfold oC;by_cases hc:cH c=true
 . rw[zP hc,hl]
   exact after_eq h.ref s hc _ (zR _)
 rw[zN hc,zbb h.ref.le h.ref.fok s hc,yD]
structure sN (L:gK) (ms:List aW) (s:aW) (YW:List aW) (k:Nat) (sE:List aW) (row:List Int):Prop where
 eq:gM (bI L s L.cL.length).1 (ms.drop k) sE row=gM (bI L s L.cL.length).1 ms YW []
 pre:YW<+:sE
 nd:sE.Nodup
 le:sE.length<=201
 low:∀ x∈sE,LowS x L.cL.length
 hd:sE[0]?=some (1,0)
 len:row.length=k
section
variable {L:gK} {ms YW sE:List aW} {s m:aW} {k j:Nat} {row:List Int} {c:Int}
theorem vB (hk:ms[k]?=some m):ms.drop k=m::ms.drop (k+1):=by
 have h:=(List.getElem?_eq_some_iff.1 hk);rw[List.drop_eq_getElem_cons h.1,h.2]
theorem sN.zero (h:sN L ms s YW k sE row) (hk:ms[k]?=some (bG L.cL c)) (h0:qX L s c=(0,0)):sN L ms s YW (k+1) sE (row++[-1]):=by
 refine⟨?_,h.pre,h.nd,h.le,h.low,h.hd,by simp[h.len]⟩;rw[<-h.eq,vB hk,gM];have e:(bI L s L.cL.length).1.and (bG L.cL c)=(0,0):=h0;simp only[e,if_true]
theorem sN.hit (h:sN L ms s YW k sE row) (hk:ms[k]?=some (bG L.cL c)) (h0:qX L s c≠(0,0)) (hj:sE[j]?=some (qX L s c)):sN L ms s YW (k+1) sE (row++[(j:Int)]):=by
 refine⟨?_,h.pre,h.nd,h.le,h.low,h.hd,by simp[h.len]⟩;obtain⟨Db,Gu⟩:=List.getElem?_eq_some_iff.1 hj;have hf:sE.findIdx? (λx=>decide (x=qX L s c))=some j:=by
  rw[List.findIdx?_eq_some_iff_getElem];refine⟨Db,by simpa using Gu,λi hi=> ?_⟩;have xm:i<sE.length:=Nat.lt_trans hi Db;have Qr:sE[i]'xm≠sE[j]'Db:=λe=>by
   have:=List.pairwise_iff_getElem.1 h.nd i j xm Db hi;exact this e
  rw[Gu] at Qr;simpa using Qr
 rw[<-h.eq,vB hk,gM];have e:(bI L s L.cL.length).1.and (bG L.cL c)=qX L s c:=rfl;simp only[e,zN h0];rw[hf]
theorem zcU (xd:∀ x∈sE,x≠qX L s c):sE.findIdx? (λx=>decide (x=qX L s c))=none:=by
 rw[List.findIdx?_eq_none_iff];intro x hx;simpa using xd x hx
theorem sN.full (h:sN L ms s YW k sE row) (hk:ms[k]?=some (bG L.cL c)) (h0:qX L s c≠(0,0)) (xd:∀ x∈sE,x≠qX L s c) (hl:200<sE.length):gM (bI L s L.cL.length).1 ms YW []=none:=by
 rw[<-h.eq,vB hk,gM];have e:(bI L s L.cL.length).1.and (bG L.cL c)=qX L s c:=rfl;simp only[e,zN h0];rw[zcU xd];simp only[zP hl]
theorem sN.new (h:sN L ms s YW k sE row) (hk:ms[k]?=some (bG L.cL c)) (h0:qX L s c≠(0,0)) (xd:∀ x∈sE,x≠qX L s c) (hl:¬ 200<sE.length) (K3:LowS (qX L s c) L.cL.length):sN L ms s YW (k+1) (sE++[qX L s c]) (row++[(sE.length:Int)]):=by
 refine⟨?_,h.pre.trans (List.prefix_append _ _),?_,by simp;omega,λx hx=> ?_,?_,by simp[h.len]⟩
 . rw[<-h.eq,vB hk,gM]
   have e:(bI L s L.cL.length).1.and (bG L.cL c)=qX L s c:=rfl;simp only[e,zN h0];rw[zcU xd];simp only[zN hl]
 . rw[List.nodup_append]
   exact⟨h.nd,by simp,λx hx y hy=>by rw[zMs] at hy;subst hy;exact xd x hx⟩
 . rcases List.mem_append.1 hx with hx|hx
   . exact h.low x hx
   rw[zMs] at hx;subst hx;exact K3
 have:=(List.getElem?_eq_some_iff.1 h.hd).1
 rw[zGl this];exact h.hd
end
structure pE (L:gK) (ms:List aW) (i:Nat) (sE:List aW) (rU:List Int) (gO:List (List Int)):Prop where
 m:pI L ms sE rU gO
 rl:rU.length=i
 eq:bU L ms (202-i) sE rU gO=bU L ms 202 [(1,0)] [] []
 low:∀ x∈sE,LowS x L.cL.length
theorem pE.start (L:gK) (ms:List aW) (h1:1<=L.cL.length):pE L ms 0 [(1,0)] [] []:=⟨pI.start L ms,rfl,rfl,λx hx=>by rw[zMs] at hx;subst hx;exact low_start h1⟩
section
variable {L:gK} {ms sE sets2:List aW} {s:aW} {i:Nat} {rU:List Int} {gO:List (List Int)} {row:List Int}
theorem pE.begin (h:pE L ms i sE rU gO) (hi:sE[i]?=some s):sN L ms s sE 0 sE []:=
 ⟨rfl,List.prefix_refl _,h.m.nd,h.m.max,h.low,h.m.hd,rfl⟩
theorem pE.loop (h:pE L ms i sE rU gO) (hi:sE[i]?=some s):bU L ms 202 [(1,0)] [] []=match gM (bI L s L.cL.length).1 ms sE [] with
 | none=>none
 | some (sets2,row)=>bU L ms (202-(i+1)) sets2 (rU++[(bI L s L.cL.length).2]) (gO++[row]):=by
 have xm:=(List.getElem?_eq_some_iff.1 hi).1;have hm:=h.m.max;have e:202-i=(202-(i+1))+1:=by omega
 rw[<-h.eq,e,bU,zP (by rw[h.rl];exact xm)];have hd:sE.getD rU.length (0,0)=s:=by rw[h.rl,zLf,hi];rfl
 rw[hd];rfl
theorem pE.next (h:pE L ms i sE rU gO) (hi:sE[i]?=some s) (hr:sN L ms s sE ms.length sets2 row):pE L ms (i+1) sets2 (rU++[(bI L s L.cL.length).2]) (gO++[row]):=by
 have xm:=(List.getElem?_eq_some_iff.1 hi).1;have hg:gM (bI L s L.cL.length).1 ms sE []=some (sets2,row):=by
  rw[<-hr.eq,List.drop_length,gM]
 have hd:sE.getD rU.length (0,0)=s:=by rw[h.rl,zLf,hi];rfl
 refine⟨?_,by simp[h.rl],?_,hr.low⟩
 . have:=(h.m.step (by rw[h.rl];exact xm) (sets2:=sets2) (row:=row) (by rw[hd];exact hg)).1
   rw[hd] at this;exact this
 rw[h.loop hi,hg]
theorem pE.full (h:pE L ms i sE rU gO) (hi:sE[i]?=some s) (hg:gM (bI L s L.cL.length).1 ms sE []=none):bU L ms 202 [(1,0)] [] []=none:=by
 rw[h.loop hi,hg]
theorem pE.done (h:pE L ms i sE rU gO) (hi:sE.length<=i):bU L ms 202 [(1,0)] [] []=some (rU,gO)/\rU.length=sE.length:=by
 have hm:=h.m.max;have Qt:=h.m.le;have Qz:=h.rl;have e:202-i=(202-(i+1))+1:=by omega
 rw[<-h.eq,e,bU,zN (by omega)];exact⟨rfl,by omega⟩
end
def TFr (tb:Nat) (S:TS) (w w':World):Prop:=TKp tb w w'/\(∀ g,S.vS.ownBlock=some g->w.heap.size<=g)/\∀ g,S.vG.ownBlock=some g->w.heap.size<=g
theorem TFr.later {S:TS} (h:TFr tb S w w1) (hb:Below w1.heap.size w1 w2):TFr tb S w w2:=⟨h.1.trans (TKp.of_below hb),h.2⟩
theorem TFr.row {S:TS} (h:TFr tb S w w1) (hk:∀ g,g<w1.heap.size->v.ownBlock≠some g->w2.heap[g]?=w1.heap[g]?) (hg:(w1.alloc ob).grownBy w2 v.ownBlock) (hv:∀ g,v.ownBlock=some g->w.heap.size<=g):TFr tb S w w2:=by
 have ye:(w1.alloc ob).heap.size=w1.heap.size+1:=by simp
 have Qc:=hg.size;have hz:=h.1.size;exact⟨⟨hg.os.trans h.1.os,hg.tape.trans h.1.tape,hg.output.trans h.1.output,by omega,λb hb hn=>(hk b (by omega) (λe=>by have:=hv b e;omega)).trans (h.1.keep b hb hn)⟩,h.2⟩
theorem TFr.push {S S2:TS} {v:Option Nat} (h:TFr tb S w w1) (hk:∀ g,g<w1.heap.size->g≠tb->v≠some g->w2.heap[g]?=w1.heap[g]?) (hv:∀ g,v=some g->w.heap.size<=g) (ho:w2.os=w1.os/\w2.tape=w1.tape/\w2.output=w1.output/\w1.heap.size<=w2.heap.size)
 (h2:∀ g,S2.vS.ownBlock=some g->w.heap.size<=g) (h3:∀ g,S2.vG.ownBlock=some g->w.heap.size<=g):TFr tb S2 w w2:=by
 have hz:=h.1.size;exact⟨⟨ho.1.trans h.1.os,ho.2.1.trans h.1.tape,ho.2.2.1.trans h.1.output,by have:=ho.2.2.2;omega,λb hb hn=>(hk b (by omega) hn (λe=>by have:=hv b e;omega)).trans (h.1.keep b hb hn)⟩,h2,h3⟩
def jT (D:TD) (n:Nat) (sE:List aW) (gO:List (List Int)):TD:={D with sE:=sE.map (fM · n),gO:=gO}
def GrowO (tb:Nat) (D:TD) (L:gK) (w:World) (e:Ending) (w':World):Prop:=
 TKp tb w w'/\match bU L ((bB L.cL).map (bG L.cL)) 202 [(1,0)] [] [] with
  | none=>e=.returned (.bool false)
  | some (rU,gO)=>e=.returned (.bool true)/\∃ sE S',pE L ((bB L.cL).map (bG L.cL)) rU.length sE rU gO/\rU.length=sE.length/\fV tb (jT D L.cL.length sE gO) S' w'
theorem pre_get {α:Type} {l m:List α} (h:l<+:m) {x:α} (hx:l[i]?=some x):m[i]?=some x:=by
 obtain⟨t,rfl⟩:=h;rw[zGl (List.getElem?_eq_some_iff.1 hx).1];exact hx
theorem zcg {α:Type} {l:List α} {f:α->List Nat} {x:α} (hx:l[i]?=some x):(l.map f).getD i []=f x:=by
 rw[zLf,List.getElem?_map,hx];rfl
theorem start_ne {L:gK} (x8:L.cL.getD 0 []=[]) (s:aW) (c:Int):(1,0)≠qX L s c:=λe=>by
 have h1:(qX L s c).has 0=true:=by rw[<-e];decide
 rw[zek (by decide),x8] at h1;have:=h1.2;simp[eB] at this
theorem zfy {D:TD} {S:TS} (h:fV tb D S w) (hn:1<=n/\n<=128) (h0:D.sE=[]/\D.gO=[]/\S.vS=.slice none 0 0/\S.vG=.slice none 0 0/\S.sv=[]/\S.gv=[]):
 ∃ S',fV tb (jT D n [(1,0)] []) S' (((w.setCell ⟨tb,4,none⟩ (.slice (some ⟨w.heap.size+1,0,none⟩) 1 1)).alloc (.cells #[.int .i64 0] 3)).alloc (.cells #[.slice (some ⟨w.heap.size,0,none⟩) 1 1] 39))/\
  TFr tb S' w (((w.setCell ⟨tb,4,none⟩ (.slice (some ⟨w.heap.size+1,0,none⟩) 1 1)).alloc (.cells #[.int .i64 0] 3)).alloc (.cells #[.slice (some ⟨w.heap.size,0,none⟩) 1 1] 39)):=by
 obtain⟨a1,a2,a3,a4,a5,a6⟩:=h0;have e1:(w.alloc (.cells #[.int .i64 0] 3)).heap.size=w.heap.size+1:=by simp
 have Hk:=(zBr w.heap.size w).alloc (zR _) (.cells #[.int .i64 0] 3);have Hr:=Hk.alloc (by omega) (.cells #[.slice (some ⟨w.heap.size,0,none⟩) 1 1] 39);have Hf:=h.lt;rw[<-World.setCell_alloc_past _ _ _ _ Hf,<-World.setCell_alloc_past _ _ _ _ (by rw[e1];omega)];have hu:cW (w.alloc (.cells #[.int .i64 0] 3)) (.slice (some ⟨w.heap.size,0,none⟩) 1 1) (eX [0]):=li_new w 0;have NV:=h.below Hk
 have hp:=NV.pushS (w2:=(w.alloc (.cells #[.int .i64 0] 3)).alloc (.cells #[.slice (some ⟨w.heap.size,0,none⟩) 1 1] 39)) (v':=.slice (some ⟨w.heap.size+1,0,none⟩) 1 1) (u:=.slice (some ⟨w.heap.size,0,none⟩) 1 1) (s:=[0]) hu
  (by rw[a1,a5];exact⟨rfl,.inr ⟨w.heap.size+1,1,_,rfl,zZ _,bR _ _ _ (by rw[e1]),zR _,by decide,rfl,rfl⟩⟩)
  (λg hg _=>((zBr _ _).alloc (zR _) _).block g hg) (λg hg=>by cases hg;exact .inr (by rw[e1];exact zR _))
 have ew:jT D n [(1,0)] []={D with sE:=D.sE++[[0]]}:=by
  unfold jT;rw[a1,List.map_singleton,zd5 hn.1 hn.2,<-a2];rfl
 rw[ew];refine⟨_,hp.1,⟨⟨rfl,rfl,rfl,by simp[World.setCell];omega,λb hb hn=> ?_⟩,λg hg=> ?_,λg hg=> ?_⟩⟩
 . rw[aG _ _ _ _ hn]
   exact Hr.block b hb
 . cases hg
   show w.heap.size<=w.heap.size+1;omega
 have hg:S.vG.ownBlock=some g:=hg
 rw[a4] at hg;cases hg
theorem zf5 {D:TD} {sE:List aW} {gO:List (List Int)} {t:aW}:jT D n (sE++[t]) gO={jT D n sE gO with sE:=(jT D n sE gO).sE++[fM t n]}:=by
 unfold jT;simp
theorem rgrow_any (tb:Nat) (D:TD) (S:TS) (w:World) (h:fV tb D S w) (L:gK) (hH:GrowH D L) (h0:D.sE=[]/\D.gO=[]/\S.vS=.slice none 0 0/\S.vG=.slice none 0 0/\S.sv=[]/\S.gv=[]):
 Calls Tryz.prog 130 #[bJ tb] w (GrowO tb D L w):=by
 have HH:=zh hH;have Hf:=h.lt;have HF:=zh (zfy h (n:=L.cL.length) ⟨hH.one,by have:=hH.ref.le;omega⟩ h0);obtain⟨_,_,_,_,c4,_⟩:=h.cells;rw[h0.2.2.1] at c4;have q4:=pK (o:=4) (o1:=.cells #[.int .i64 0] 3) (o2:=.cells #[.slice (some ⟨w.heap.size,0,none⟩) 1 1] 39) h.blk;have K6:tb<w.heap.size+1:=by omega
 obtain⟨ms,GR⟩:=zE ((bB L.cL).map (bG L.cL));have jr:zH (∀ e w',GrowO tb D L w e w'=(TKp tb w w'/\match bU L ms 202 [(1,0)] [] [] with
  | none=>e=.returned (.bool false)
  | some (rU,gO)=>e=.returned (.bool true)/\∃ sE S',pE L ms rU.length sE rU gO/\rU.length=sE.length/\fV tb (jT D L.cL.length sE gO) S' w')):=zh (λe w'=>by rw[GR];rfl)
 have Rl:zH (ms.length=D.cU.length/\∀ k,k<D.cU.length->ms[k]?=some (bG L.cL (D.cU.getD k 0))):=zh (by
  rw[GR,hH.cU];refine⟨by simp,λk hk=> ?_⟩;rw[List.getElem?_map,zLf,zLe hk];rfl)
 clear GR h hH h0;unfold bJ;go_enter Tryz.func130,Tryz.ntmps130;go_upto_region 2 with (fail)
 clear c4 q4 K6 Hf;generalize ((w.setCell ⟨tb,4,none⟩ (.slice (some ⟨w.heap.size+1,0,none⟩) 1 1)).alloc (.cells #[.int .i64 0] 3)).alloc (.cells #[.slice (some ⟨w.heap.size,0,none⟩) 1 1] 39)=w1 at HF ⊢;go_wp2_with (fail);go_loopw [3] (λs3 wr=>∃ (i:Nat) (sE:List aW) (rU:List Int) (gO:List (List Int)) (S':TS),s3=.int .i64 i/\i<=sE.length/\pE L ms i sE rU gO/\fV tb (jT D L.cL.length sE gO) S' wr/\TFr tb S' w wr) (λs3 _=>202-(RowKit.intOf s3).toNat)
 case atStart=>
  obtain⟨S',h1,h2⟩:=HF.o;exact⟨0,[(1,0)],[],[],S',rfl,by simp,pE.start L ms HH.o.one,h1,h2⟩
 case round=>
  clear HF;obtain⟨i,sE,rU,gO,S',rfl,hi,ym,hr,YN⟩:=hrel;have HO:=zh ym;have HR:=zh hr;have HT:=zh YN;obtain⟨_,_,_,_,c4,_⟩:=hr.cells;have Vg:wr.ownsRow 0 39 1 S'.vS sE.length S'.sv:=by have:=hr.srow;simpa[jT] using this
  obtain⟨aoS,cS,Tw⟩:=bM Vg;rw[Tw] at c4;have kz:=hr.lt;have WT:=ym.m.max;by_cases Hf:i<sE.length
  . have zl:(i:Int)<(sE.length:Int):=by omega
    have Xe:=zW i (by omega);obtain⟨s,hs⟩:=zG sE i Hf;have BC:=zh hs;have D2:=zh (ym.begin hs);clear ym hr YN Vg Tw hs;go_wp2_with (fail)
    go_loopw [4,5] (λs4 s5 wr=>∃ (k:Nat) (sets2:List aW) (row:List Int) (S2:TS) (YK:Option Addr) (Hx:Nat),s5=.int .i64 k/\s4=.slice YK row.length Hx/\k<=D.cU.length/\sN L ms s sE k sets2 row/\fV tb (jT D L.cL.length sets2 gO) S2 wr/\TFr tb S2 w wr/\cW wr (.slice YK row.length Hx) row/\Priv S2 (.slice YK row.length Hx)/\∀ g,(Value.slice YK row.length Hx).ownBlock=some g->w.heap.size<=g) (λ_ s5 _=>D.cU.length-(RowKit.intOf s5).toNat)
    case atStart=>exact⟨0,sE,[],S',none,0,rfl,rfl,by omega,D2.o,HR.o,HT.o,cW.nil _,Priv.nil _,λg hg=>(by cases hg)⟩
    case round=>
     clear HR HT c4 kz;obtain⟨k,sets2,row,S2,YK,Hx,rfl,rfl,hk,QJ,hr,YN,Yc⟩:=hrel;have HR:=zh hr;have HT:=zh YN;have vz:=zh Yc;have Qz:row.length<=k:=Nat.le_of_eq QJ.len;have Ob:k<=50000:=zT hk HH.o.lc;have RF:=QJ.le;obtain⟨_,_,_,c3,c4,c5,_⟩:=hr.cells;have kz:=hr.lt;clear Yc;by_cases Y1:k<D.cU.length
     . have zk:(k:Int)<(D.cU.length:Int):=by omega
       have Kv:=zW k (by omega);have Pj:cW wr S2.vC D.cU:=hr.crow;obtain⟨gC,capC,eC,lgC,cgC⟩:=sH Pj Y1
       replace c3:wr.cell? ⟨tb,3,none⟩=some S2.vC:=c3
       rw[eC] at c3;have dm:=HH.o.rng _ (oS.2 ⟨k,Y1,rfl⟩);have vm:=Rl.o.2 k Y1;obtain⟨c,lx⟩:=zE (D.cU.getD k 0);rw[<-lx] at cgC dm vm;have Dz:=pre_get QJ.pre BC.o;have Gs:=(List.getElem?_eq_some_iff.1 Dz).1;have Vg:wr.ownsRow 0 39 1 S2.vS sets2.length S2.sv:=by have:=hr.srow;simpa[jT] using this
       obtain⟨gS,capS,u,eS,lgS,hu,cgS⟩:=qE Vg Gs
       replace c4:wr.cell? ⟨tb,4,none⟩=some S2.vS:=c4
       rw[eS] at c4;have U2:=hr.sli i u hu;have KY:(jT D L.cL.length sets2 gO).sE.getD i []=fM s L.cL.length:=zcg Dz;rw[KY] at U2;obtain⟨aou,cu,tD⟩:=U2.form;subst tD;have zi2:(i:Int)<(sets2.length:Int):=by omega
       have Ko:D.rL.length=L.cL.length:=by have:=HH.o.ref.ln;rwa [List.length_map] at this
       have Vd:=(zBr wr.heap.size wr).drew;have HK:=zh (zfM tb (jT D L.cL.length sets2 gO) S2 wr.drew (hr.below Vd) _ (fM s L.cL.length) (U2.below Vd) c dm ⟨by show 1<=D.rL.length;rw[Ko];exact HH.o.one,by show D.rL.length<=65;rw[Ko];exact HH.o.ref.le,by show D.fL.length=D.rL.length;rw[Ko];exact HH.o.ref.fn⟩
        (λx hx=>by show x<D.fL.length;rw[HH.o.ref.fn];exact (oP.1 hx).1) (by have:=vN s L.cL.length;have:=HH.o.ref.le;omega) HH.o.fL HH.o.rl)
       have Se:oC (jT D L.cL.length sets2 gO) (fM s L.cL.length) c=fM (qX L s c) L.cL.length:=after_toS HH.o s c;rw[Se] at HK;have K3:LowS (qX L s c) L.cL.length:=toS_low HH.o.ref.le HH.o.ref.fok s c;have Rt:=zh (start_ne (L:=L) HH.o.ref.c0 s c);have Mj:zH (qX L s c=(0,0)->sN L ms s sE (k+1) sets2 (row++[-1])):=zh (λh=>QJ.zero vm h)
       have Tx:zH (∀ j:Nat,qX L s c≠(0,0)->sets2[j]?=some (qX L s c)->sN L ms s sE (k+1) sets2 (row++[(j:Int)])):=zh (λj h1 h2=>QJ.hit vm h1 h2);have nj:zH (qX L s c≠(0,0)->(∀ x∈sets2,x≠qX L s c)->200<sets2.length->bU L ms 202 [(1,0)] [] []=none):=zh (λh1 h2 h3=>HO.o.full BC.o (QJ.full vm h1 h2 h3))
       have Nc:zH (qX L s c≠(0,0)->(∀ x∈sets2,x≠qX L s c)->¬ 200<sets2.length->sN L ms s sE (k+1) (sets2++[qX L s c]) (row++[(sets2.length:Int)])):=zh (λh1 h2 h3=>QJ.new vm h1 h2 h3 K3);have Bl:=zh (zAi K3 QJ.low);have EO:=zh QJ.hd;have An:=ofSet_nil K3;have MA:=vN (qX L s c) L.cL.length;have SL:=HH.o.ref.le;clear QJ hr YN Pj eC Vg eS hu U2 KY Dz Gs Ko Vd Se K3 vm lx dm;generalize qX L s c=to' at HK Rt Mj Tx nj Nc Bl An MA
       obtain⟨J,hJ⟩:=zE (fM to' L.cL.length);rw[<-hJ] at HK An MA;have HJ:=zh hJ;clear hJ;generalize (eX (fM s L.cL.length)).length=nu at HK cgS;go_upto_region 9 with (fail)
       refine wp_region_noPanic ?_;refine cK (λw'=>w'.cell? ⟨tb,3,none⟩=some (.slice (some ⟨gC,0,none⟩) D.cU.length capC)/\w'.cell? ⟨gC,k,none⟩=some (.int .i64 c)/\w'.cell? ⟨tb,4,none⟩=some (.slice (some ⟨gS,0,none⟩) sets2.length capS)/\w'.cell? ⟨gS,i,none⟩=some (.slice aou nu cu)) 16 (by kernel_rfl) ⟨c3,cgC,c4,cgS⟩ (λHe=> ?_);refine aH 0 He ?_;refine aH 1 He ?_;refine aH 2 He ?_;refine aH 3 He ?_;refine aH 4 He ?_;refine aH 5 He ?_;refine aH 6 He ?_;refine aH 7 He ?_;refine aH 8 He ?_;refine aH 9 He ?_;refine aH 10 He ?_;refine aH 11 He ?_;refine aH 12 He ?_;refine aH 13 He ?_;refine aH 14 He ?_;refine dA 15 (λK hK=> ?_);go_simp;go_at_call 154;refine HK.o.mono ?_;rintro e w5 ⟨JQ,Yg,rfl,VL⟩;have hn:pJ wr.heap.size (.slice JQ J.length Yg) (eX J) wr w5:=⟨VL.1,VL.2.1,(zBr wr.heap.size wr).drew.trans VL.2.2⟩;clear VL;have Q6:=zAi ((aL hn.2.2 ⟨tb,3,none⟩ kz).trans c3) (zAi ((aL hn.2.2 ⟨gC,k,none⟩ lgC).trans cgC) (zAi ((aL hn.2.2 ⟨tb,4,none⟩ kz).trans c4) ((aL hn.2.2 ⟨gS,i,none⟩ lgS).trans cgS)))
       refine hK.out _ _ (λ_=>Q6) ?_;clear hK K He;(try simp only[Act.put,lA,lB,lC]);refine dA 16 (λK hK=> ?_);go_simp;refine hK.out _ _ (λh=>absurd rfl h) ?_;clear hK K Q6 HK;(try simp only[Act.put,lA,lB,lC]);refine fK (by kernel_rfl) ?_;refine NoPanic.normal ?_;have jz:=zh (HR.o.below hn.2.2);have Q0:=zh (HT.o.later hn.2.2)
       have VV:zH (cW w5 (.slice YK row.length Hx) row/\Priv S2 (.slice YK row.length Hx)/\∀ g,(Value.slice YK row.length Hx).ownBlock=some g->w.heap.size<=g):=zh ⟨vz.o.1.below hn.2.2,vz.o.2⟩;have LE:zH (∀ g,(Value.slice JQ J.length Yg).ownBlock=some g->(Value.slice YK row.length Hx).ownBlock≠some g):=zh (λg hg e=>by
        have h1:=hn.2.1 g hg;have h2:=vz.o.1.lt g e;omega)
       have R5:cW w5 (.slice JQ J.length Yg) (eX J):=hn.1;have ES:=zh R5;clear hn R5 HR HT vz c3 cgC c4 cgS c5 kz lgC lgS zk zi2;go_wp2_with (fail);go_loopw [7,8] (λs7 s8 wr=>∃ j:Nat,s8=.int .i64 j/\s7=.int .i64 (-1)/\1<=j/\j<=202/\(∀ j',1<=j'->j'<j->sets2[j']?≠some to')/\Below w5.heap.size w5 wr) (λ_ s8 _=>sets2.length-(RowKit.intOf s8).toNat)
       case atStart=>exact⟨1,rfl,rfl,zR _,by omega,λj' h1 h2=>by omega,zBr _ _⟩
       case round=>
        obtain⟨j,rfl,rfl,o6,A1,xd,VE⟩:=hrel;have K9:=zh xd;have HR:=zh (jz.o.below VE);have HT:=zh (Q0.o.later VE);have vz:zH (cW wr (.slice YK row.length Hx) row/\Priv S2 (.slice YK row.length Hx)/\∀ g,(Value.slice YK row.length Hx).ownBlock=some g->w.heap.size<=g):=zh ⟨VV.o.1.below VE,VV.o.2⟩;have ur:=zh (ES.o.below VE);have vy:=zh VE;obtain⟨_,_,_,_,c4,_,_⟩:=HR.o.cells;have kz:=HR.o.lt
        have Vg:wr.ownsRow 0 39 1 S2.vS sets2.length S2.sv:=by have:=HR.o.srow;simpa[jT] using this
        obtain⟨aoS,capS,Tw⟩:=bM Vg;rw[Tw] at c4;have TB:=zh (zAi Vg Tw);clear xd VE Vg Tw;by_cases Yb:j<sets2.length
        . have zj:(j:Int)<(sets2.length:Int):=by omega
          by_cases ht:to'=(0,0)
          . have zJ:¬ (0:Int)<(J.length:Int):=by rw[An.2 ht];simp
            have Bc:=zh (Mj.o ht);clear An ht ES jz Q0 VV;have X7:wr.ownsRow 0 3 1 (.slice YK row.length Hx) row.length (dE row):=vz.o.1;have xi:=zh X7;clear X7
            go_wp2_with (first|(at_builtin;refine bK _ rfl _ _ rfl mD (.slice YK row.length Hx) row.length (dE row) (by rfl) (by exact aZ xi.o ((zBr _ _).alloc (zR _) _)) ⟨wr.heap.size,0,none⟩ 1 1 [.int .i64 (-1)] (by rfl) (by rfl) (cM _ #[.int .i64 (-1)] _ _ rfl) (by simp[Value.oneCell']) (by decide) (by omega) (by decide) ?_;intro v9 w9 qp yh yg;obtain⟨g9,yk,rfl⟩:=bV qp;have H9:=zh (zAi qp (zAi yh yg));clear qp yh yg))
            have Vj:=zh (HR.o.app vz.o.1 vz.o.2.1 H9.o.2.1 H9.o.1 H9.o.2.2);have CQ:=zh (HT.o.row Vj.o.2.2.2 H9.o.2.1 vz.o.2.2);have KE:zH (∀ g,(Value.slice (some ⟨g9,0,none⟩) (row++[(-1)]).length yk).ownBlock=some g->w.heap.size<=g):=zh (λg hg=>by
             rcases H9.o.2.2 with e|e
             . exact vz.o.2.2 g (e.symm.trans hg)
             have h9:(Value.slice (some ⟨g9,0,none⟩) (row.length+1) yk).ownBlock=some g:=hg
             rw[h9] at e;cases e;have:=HT.o.1.size;simp;omega)
            clear H9 xi;go_roundw
            case rel=>exact⟨k+1,_,row++[(-1)],S2,some ⟨g9,0,none⟩,yk,by go_num,by simp,by omega,Bc.o,Vj.o.1,CQ.o,by have h:=Vj.o.2.1;have h2:=Vj.o.2.2.1;exact⟨by simpa using h,by simpa using h2,KE.o⟩⟩
            case measure=>(simp[zI]<;>omega)
          have zJ:(0:Int)<(J.length:Int):=by
           have:J.length≠0:=λe=>ht (An.1 (List.length_eq_zero_iff.1 e));omega
          have Lp:=zW j (by omega);obtain⟨gS,capS',u,eS,lgS,hu,cgS⟩:=qE TB.o.1 Yb;rw[TB.o.2] at eS;cases eS;obtain⟨sj,Lk⟩:=zG sets2 j Yb;have U2:=HR.o.sli j u hu;have KY:(jT D L.cL.length sets2 gO).sE.getD j []=fM sj L.cL.length:=zcg Lk;rw[KY] at U2;obtain⟨aou,cu,tD⟩:=U2.form;subst tD;have HK:=zh (zei _ _ _ _ wr U2 ur.o (by rw[bO];have:=vN sj L.cL.length;omega))
          have VJ:decide (eX (fM sj L.cL.length)=eX J)=decide (sj=to'):=decide_eq_decide.2 ⟨λh=>by
           rw[HJ.o] at h;refine zdd (Bl.o.2 sj (zM Lk)) Bl.o.1 ?_;have h3:Function.Injective (λ(n:Nat)=>(n:Int)):=λa b h=>by have h:(a:Int)=(b:Int):=h;omega
           exact (List.map_inj_right (λa b h=>h3 h)).1 h,λh=>by rw[h,HJ.o]⟩
          rw[VJ] at HK;generalize (eX (fM sj L.cL.length)).length=nu at HK cgS;have Rs:=zh Lk;clear VJ U2 KY hu Lk;by_cases he:sj=to'
          . rw[decide_eq_true he] at HK
            have Bc:=zh (Tx.o j ht (by rw[<-he];exact Rs.o));clear he An ht;go_upto_region 15 with (go_at_call 155;refine HK.o.mono ?_;rintro e' w6 ⟨rfl,yd⟩;have Qe:=zh yd;clear yd)
            have Xx:=zh (HR.o.below Qe.o);have Ql:=zh (HT.o.later Qe.o);have XG:zH (cW w6 (.slice YK row.length Hx) row/\Priv S2 (.slice YK row.length Hx)/\∀ g,(Value.slice YK row.length Hx).ownBlock=some g->w.heap.size<=g):=zh ⟨vz.o.1.below Qe.o,vz.o.2⟩;clear vz HR HT cgS c4 lgS kz Qe vy jz Q0 VV ES ur TB;have X7:w6.ownsRow 0 3 1 (.slice YK row.length Hx) row.length (dE row):=XG.o.1;have xi:=zh X7;clear X7
            go_wp2_with (first|(at_builtin;refine bK _ rfl _ _ rfl mD (.slice YK row.length Hx) row.length (dE row) (by rfl) (by exact aZ xi.o ((zBr _ _).alloc (zR _) _)) ⟨w6.heap.size,0,none⟩ 1 1 [.int .i64 (j:Int)] (by rfl) (by rfl) (cM _ #[.int .i64 (j:Int)] _ _ rfl) (by simp[Value.oneCell']) (by decide) (by omega) (by decide) ?_;intro v9 w9 qp yh yg;obtain⟨g9,yk,rfl⟩:=bV qp;have H9:=zh (zAi qp (zAi yh yg));clear qp yh yg))
            have Vj:=zh (Xx.o.app XG.o.1 XG.o.2.1 H9.o.2.1 H9.o.1 H9.o.2.2);have CQ:=zh (Ql.o.row Vj.o.2.2.2 H9.o.2.1 XG.o.2.2);have KE:zH (∀ g,(Value.slice (some ⟨g9,0,none⟩) (row++[(j:Int)]).length yk).ownBlock=some g->w.heap.size<=g):=zh (λg hg=>by
             rcases H9.o.2.2 with e|e
             . exact XG.o.2.2 g (e.symm.trans hg)
             have h9:(Value.slice (some ⟨g9,0,none⟩) (row.length+1) yk).ownBlock=some g:=hg
             rw[h9] at e;cases e;have:=Ql.o.1.size;simp;omega)
            clear H9 xi;go_roundw
            case rel=>exact⟨k+1,_,row++[(j:Int)],S2,some ⟨g9,0,none⟩,yk,by go_num,by simp,by omega,Bc.o,Vj.o.1,CQ.o,by have h:=Vj.o.2.1;have h2:=Vj.o.2.2.1;exact⟨by simpa using h,by simpa using h2,KE.o⟩⟩
            case measure=>(simp[zI]<;>omega)
          rw[decide_eq_false he] at HK
          have ma:zH (∀ j',1<=j'->j'<j+1->sets2[j']?≠some to'):=zh (λj' h1 h2 h3=>by
           by_cases e:j'=j
           . subst e
             rw[Rs.o] at h3;cases h3;exact he rfl
           exact K9.o j' h1 (by omega) h3)
          clear he;go_wp2_with (first|(go_at_call 155;refine HK.o.mono ?_;rintro e' w6 ⟨rfl,yd⟩;have Qe:=zh yd;clear yd));go_roundw
          case rel=>exact⟨j+1,by go_num,rfl,by omega,by omega,ma.o,vy.o.trans (Qe.o.mono vy.o.size)⟩
          case measure=>(simp[zI]<;>omega)
        have zj:¬ (j:Int)<(sets2.length:Int):=by omega
        by_cases ht:to'=(0,0)
        . have zJ:¬ (0:Int)<(J.length:Int):=by rw[An.2 ht];simp
          have Bc:=zh (Mj.o ht);clear An ht ES jz Q0 VV;have X7:wr.ownsRow 0 3 1 (.slice YK row.length Hx) row.length (dE row):=vz.o.1;have xi:=zh X7;clear X7
          go_wp2_with (first|(at_builtin;refine bK _ rfl _ _ rfl mD (.slice YK row.length Hx) row.length (dE row) (by rfl) (by exact aZ xi.o ((zBr _ _).alloc (zR _) _)) ⟨wr.heap.size,0,none⟩ 1 1 [.int .i64 (-1)] (by rfl) (by rfl) (cM _ #[.int .i64 (-1)] _ _ rfl) (by simp[Value.oneCell']) (by decide) (by omega) (by decide) ?_;intro v9 w9 qp yh yg;obtain⟨g9,yk,rfl⟩:=bV qp;have H9:=zh (zAi qp (zAi yh yg));clear qp yh yg))
          have Vj:=zh (HR.o.app vz.o.1 vz.o.2.1 H9.o.2.1 H9.o.1 H9.o.2.2);have CQ:=zh (HT.o.row Vj.o.2.2.2 H9.o.2.1 vz.o.2.2);have KE:zH (∀ g,(Value.slice (some ⟨g9,0,none⟩) (row++[(-1)]).length yk).ownBlock=some g->w.heap.size<=g):=zh (λg hg=>by
           rcases H9.o.2.2 with e|e
           . exact vz.o.2.2 g (e.symm.trans hg)
           have h9:(Value.slice (some ⟨g9,0,none⟩) (row.length+1) yk).ownBlock=some g:=hg
           rw[h9] at e;cases e;have:=HT.o.1.size;simp;omega)
          clear H9 xi;go_roundw
          case rel=>exact⟨k+1,_,row++[(-1)],S2,some ⟨g9,0,none⟩,yk,by go_num,by simp,by omega,Bc.o,Vj.o.1,CQ.o,by have h:=Vj.o.2.1;have h2:=Vj.o.2.2.1;exact⟨by simpa using h,by simpa using h2,KE.o⟩⟩
          case measure=>(simp[zI]<;>omega)
        have zJ:(0:Int)<(J.length:Int):=by
         have:J.length≠0:=λe=>ht (An.1 (List.length_eq_zero_iff.1 e));omega
        have QN:∀ x∈sets2,x≠to':=λx hx e=>by
         obtain⟨q,hq⟩:=List.mem_iff_getElem?.1 hx;rw[e] at hq
         rcases Nat.eq_zero_or_pos q with h0|h0
         . subst h0
           rw[EO.o] at hq;cases hq;exact Rt.o rfl
         exact K9.o q h0 (by have:=(List.getElem?_eq_some_iff.1 hq).1;omega) hq
        by_cases Vt:200<sets2.length
        . have z2:(200:Int)<(sets2.length:Int):=by omega
          have HE:=zh (nj.o ht QN Vt);clear An ht QN Vt;go_wp2_with (fail);go_ret;rw[jr.o,HE.o];exact⟨HT.o.1,rfl⟩
        have z2:¬ (200:Int)<(sets2.length:Int):=by omega
        have Bc:=zh (Nc.o ht QN Vt);clear An ht QN Vt jz Q0 VV ES;go_upto_region 21 with (fail)
        go_upto_region 22 with (at_builtin;refine bK _ rfl _ _ rfl zb1 (.slice aoS sets2.length capS) sets2.length S2.sv (by rfl) (by exact aZ (TB.o.2▸TB.o.1) ((zBr _ _).alloc (zR _) _)) ⟨wr.heap.size,0,none⟩ 1 1 [.slice JQ J.length Yg] (by rfl) (by rfl) (cM _ #[.slice JQ J.length Yg] _ _ rfl) (by simp[Value.oneCell']) (by decide) (by omega) (by decide) ?_;intro v7 w7 VP XS AD;obtain⟨g7,yr,rfl⟩:=bV VP;have VK:(wr.alloc (.cells #[.slice JQ J.length Yg] 39)).grownBy w7 S2.vS.ownBlock:=(by rw[TB.o.2];exact XS);have q7:=(dN HR.o.lt VK (λe=>HR.o.ne HR.o.srow (by decide) e rfl)).trans HR.o.blk;have c7:=aB _ _ 4 _ _ _ q7;have f7:=aM w7 tb 4 _ _ q7;have H7:=zh (zAi VP (zAi VK AD));clear VP XS AD VK q7)
        have DL:∀ g,(Value.slice (some ⟨g7,0,none⟩) (sets2.length+1) yr).ownBlock=some g->S2.vS.ownBlock=some g\/wr.heap.size<=g:=λg hg=>by
         rcases H7.o.2.2 with e|e
         . rw[TB.o.2];exact .inl (e.symm.trans hg)
         rw[hg] at e;cases e;exact .inr (by simp)
        have hp:=HR.o.pushS (w2:=w7) (v':=.slice (some ⟨g7,0,none⟩) (sets2.length+1) yr) (u:=.slice JQ J.length Yg) (s:=J) ur.o (by have h9:=H7.o.1;simpa[jT] using h9) (λg h1 h2=>dN h1 H7.o.2.1 h2) DL;rw[HJ.o,<-zf5] at hp
        have FH:TFr tb {S2 with vS:=.slice (some ⟨g7,0,none⟩) (sets2.length+1) yr,sv:=S2.sv++[.slice JQ J.length Yg]} w (w7.setCell ⟨tb,4,none⟩ (.slice (some ⟨g7,0,none⟩) (sets2.length+1) yr)):=HT.o.push (v:=S2.vS.ownBlock) hp.2 HT.o.2.1 ⟨H7.o.2.1.os,H7.o.2.1.tape,H7.o.2.1.output,by have:=H7.o.2.1.size;simp[World.setCell] at this ⊢;omega⟩ (λg hg=>by
         rcases DL g hg with e|e
         . exact HT.o.2.1 g e
         exact zT HT.o.1.size e) HT.o.2.2
        have GH:cW (w7.setCell ⟨tb,4,none⟩ (.slice (some ⟨g7,0,none⟩) (sets2.length+1) yr)) (.slice YK row.length Hx) row:=HR.o.liK (b:=S2.vS.ownBlock) (λg hg=>dK HR.o.srow hg) hp.2 vz.o.1;have Xx:zH (fV tb (jT D L.cL.length (sets2++[to']) gO) {S2 with vS:=.slice (some ⟨g7,0,none⟩) (sets2.length+1) yr,sv:=S2.sv++[.slice JQ J.length Yg]} (w7.setCell ⟨tb,4,none⟩ (.slice (some ⟨g7,0,none⟩) (sets2.length+1) yr))):=zh (by have h9:=hp.1;rw[<-HJ.o] at h9;exact h9);have Ql:=zh FH
        have XG:zH (cW (w7.setCell ⟨tb,4,none⟩ (.slice (some ⟨g7,0,none⟩) (sets2.length+1) yr)) (.slice YK row.length Hx) row/\Priv {S2 with vS:=.slice (some ⟨g7,0,none⟩) (sets2.length+1) yr,sv:=S2.sv++[.slice JQ J.length Yg]} (.slice YK row.length Hx)/\∀ g,(Value.slice YK row.length Hx).ownBlock=some g->w.heap.size<=g):=zh ⟨GH,λg hg=>by
         obtain⟨a1,a2,a3,a4,a5⟩:=vz.o.2.1 g hg;refine⟨a1,a2,a3,λx hx=> ?_,a5⟩
         rcases List.mem_append.1 hx with hx|hx
         . exact a4 x hx
         rw[zMs] at hx
         subst hx;exact λe=>LE.o g e hg,vz.o.2.2⟩
        clear hp FH GH DL H7 c7 f7 c4 kz vz HR HT TB ur vy;generalize ({S2 with vS:=.slice (some ⟨g7,0,none⟩) (sets2.length+1) yr,sv:=S2.sv++[.slice JQ J.length Yg]}:TS)=S7 at Xx Ql XG;generalize w7.setCell ⟨tb,4,none⟩ (.slice (some ⟨g7,0,none⟩) (sets2.length+1) yr)=w6 at Xx Ql XG ⊢;have X7:w6.ownsRow 0 3 1 (.slice YK row.length Hx) row.length (dE row):=XG.o.1;have xi:=zh X7;clear X7
        go_wp2_with (first|(at_builtin;refine bK _ rfl _ _ rfl mD (.slice YK row.length Hx) row.length (dE row) (by rfl) (by exact aZ xi.o ((zBr _ _).alloc (zR _) _)) ⟨w6.heap.size,0,none⟩ 1 1 [.int .i64 (sets2.length:Int)] (by rfl) (by rfl) (cM _ #[.int .i64 (sets2.length:Int)] _ _ rfl) (by simp[Value.oneCell']) (by decide) (by omega) (by decide) ?_;intro v9 w9 qp yh yg;obtain⟨g9,yk,rfl⟩:=bV qp;have H9:=zh (zAi qp (zAi yh yg));clear qp yh yg))
        have Vj:=zh (Xx.o.app XG.o.1 XG.o.2.1 H9.o.2.1 H9.o.1 H9.o.2.2);have CQ:=zh (Ql.o.row Vj.o.2.2.2 H9.o.2.1 XG.o.2.2);have KE:zH (∀ g,(Value.slice (some ⟨g9,0,none⟩) (row++[(sets2.length:Int)]).length yk).ownBlock=some g->w.heap.size<=g):=zh (λg hg=>by
         rcases H9.o.2.2 with e|e
         . exact XG.o.2.2 g (e.symm.trans hg)
         have h9:(Value.slice (some ⟨g9,0,none⟩) (row.length+1) yk).ownBlock=some g:=hg
         rw[h9] at e;cases e;have:=Ql.o.1.size;simp;omega)
        clear H9 xi;go_roundw
        case rel=>exact⟨k+1,_,row++[(sets2.length:Int)],S7,some ⟨g9,0,none⟩,yk,by go_num,by simp,by omega,Bc.o,Vj.o.1,CQ.o,by have h:=Vj.o.2.1;have h2:=Vj.o.2.2.1;exact⟨by simpa using h,by simpa using h2,KE.o⟩⟩
        case measure=>(simp[zI]<;>omega)
     have zk:¬ (k:Int)<(D.cU.length:Int):=by omega
     have UI:k=ms.length:=by rw[Rl.o.1];omega
     have QM:zH (pE L ms (i+1) sets2 (rU++[(bI L s L.cL.length).2]) (gO++[row])):=zh (HO.o.next BC.o (by rw[<-UI];exact QJ));have Pj:cW wr S2.vC D.cU:=hr.crow;obtain⟨aoC,capC,wC⟩:=Pj.form
     replace c3:wr.cell? ⟨tb,3,none⟩=some S2.vC:=c3
     rw[wC] at c3;have Xr:gO.length<=201:=by rw[HO.o.m.lg,HO.o.rl];omega
     have C6:wr.ownsRow 0 39 1 S2.vG gO.length S2.gv:=hr.grow;obtain⟨aoG,capG,OT⟩:=bM C6
     replace c5:wr.cell? ⟨tb,5,none⟩=some S2.vG:=c5
     rw[OT] at c5;have D4:=zh (zAi C6 OT);have xp:=QJ.pre.length_le;have av:zH (i+1<=sets2.length):=zh (by omega);have WC:zH (i<=201):=zh (by omega);clear QJ hr YN Pj wC C6 OT UI c4;go_upto_region 23 with (fail)
     go_upto_region 4 with (at_builtin;refine bK _ rfl _ _ rfl zb1 (.slice aoG gO.length capG) gO.length S2.gv (by rfl) (by exact aZ (D4.o.2▸D4.o.1) ((zBr _ _).alloc (zR _) _)) ⟨wr.heap.size,0,none⟩ 1 1 [.slice YK row.length Hx] (by rfl) (by rfl) (cM _ #[.slice YK row.length Hx] _ _ rfl) (by simp[Value.oneCell']) (by decide) (by omega) (by decide) ?_;intro v7 w7 VP XS AD;obtain⟨g7,yr,rfl⟩:=bV VP;have VK:(wr.alloc (.cells #[.slice YK row.length Hx] 39)).grownBy w7 S2.vG.ownBlock:=(by rw[D4.o.2];exact XS);have q7:=(dN HR.o.lt VK (λe=>HR.o.ne HR.o.grow (by decide) e rfl)).trans HR.o.blk;have c7:=aB _ _ 5 _ _ _ q7;have f7:=aM w7 tb 5 _ _ q7;have H7:=zh (zAi VP (zAi VK AD));clear VP XS AD VK q7)
     have DL:∀ g,(Value.slice (some ⟨g7,0,none⟩) (gO.length+1) yr).ownBlock=some g->S2.vG.ownBlock=some g\/wr.heap.size<=g:=λg hg=>by
      rcases H7.o.2.2 with e|e
      . rw[D4.o.2];exact .inl (e.symm.trans hg)
      rw[hg] at e;cases e;exact .inr (by simp)
     have hp:=HR.o.pushG (w2:=w7) (v':=.slice (some ⟨g7,0,none⟩) (gO.length+1) yr) (u:=.slice YK row.length Hx) (s:=row) vz.o.1 H7.o.1 H7.o.2.1 (by rw[D4.o.2];exact H7.o.2.2)
     have FH:TFr tb {S2 with vG:=.slice (some ⟨g7,0,none⟩) (gO.length+1) yr,gv:=S2.gv++[.slice YK row.length Hx]} w (w7.setCell ⟨tb,5,none⟩ (.slice (some ⟨g7,0,none⟩) (gO.length+1) yr)):=HT.o.push (v:=S2.vG.ownBlock) hp.2 HT.o.2.2 ⟨H7.o.2.1.os,H7.o.2.1.tape,H7.o.2.1.output,by have:=H7.o.2.1.size;simp[World.setCell] at this ⊢;omega⟩ HT.o.2.1 (λg hg=>by
      rcases DL g hg with e|e
      . exact HT.o.2.2 g e
      exact zT HT.o.1.size e)
     have KJ:zH (fV tb (jT D L.cL.length sets2 (gO++[row])) {S2 with vG:=.slice (some ⟨g7,0,none⟩) (gO.length+1) yr,gv:=S2.gv++[.slice YK row.length Hx]} (w7.setCell ⟨tb,5,none⟩ (.slice (some ⟨g7,0,none⟩) (gO.length+1) yr))):=zh hp.1;have p9:=zh FH;clear hp FH DL H7 c7 f7 vz HR HT D4 c3 c5 kz;generalize ({S2 with vG:=.slice (some ⟨g7,0,none⟩) (gO.length+1) yr,gv:=S2.gv++[.slice YK row.length Hx]}:TS)=S7 at KJ p9
     generalize w7.setCell ⟨tb,5,none⟩ (.slice (some ⟨g7,0,none⟩) (gO.length+1) yr)=w8 at KJ p9 ⊢;go_wp2_with (fail);go_roundw
     case rel=>exact⟨i+1,sets2,_,gO++[row],S7,by go_num,av.o,QM.o,KJ.o,p9.o⟩
     case measure=>have:=WC.o;(simp[RowKit.intOf]<;>omega)
  have zl:¬ (i:Int)<(sE.length:Int):=by omega
  have hd:=ym.done (by omega);have HD:=zh (zAi hd.1 hd.2);clear ym hr YN Vg Tw hd;go_wp2_with (fail);go_ret;rw[jr.o,HD.o.1];exact⟨HT.o.1,rfl,sE,S',by rw[HO.o.rl];exact HO.o,HD.o.2,HR.o⟩
