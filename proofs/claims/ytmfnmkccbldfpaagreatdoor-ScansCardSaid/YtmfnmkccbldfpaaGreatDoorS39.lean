/- Part of a proof. No condition. -/
import Derived.Test.YtmfnmkccbldfpaaGreatDoorS37
import Derived.Test.YtmfnmkccbldfpaaGreatDoorS38
set_option linter.unusedVariables false
set_option linter.unusedSimpArgs false
set_option maxRecDepth 100000
set_option maxHeartbeats 16000000
namespace Go.Proofs.YtmfnmkccbldfpaaGreatDoor
open Go.RowKit Go.Lib Tryz
theorem zzDS {p:Prop} (h:p:=by
 have:J.length≠0:=λe=>ht (Uv.1 (List.length_eq_zero_iff.1 e));omega):p:=h
theorem zzBa {p:Prop} (h:p:=by exact aN xn.o (iM.alloc bR _)):p:=h
theorem zzBZ {p:Prop} (h:p:=by
 go_wp2
 go_roundw
 case rel=>exact⟨i+1,by go_num,zo,(λj r hj hr=>by
  by_cases e:j=i
  . subst e;rw[HR.o] at hr;grind
  exact j0.o j r zo hr),trivial⟩
 grind [RowKit.intOf]):p:=h
theorem zzBK {p:Prop} (h:p:=by
 clear Qo HB;go_upto_region 5 with fail
 go_quiet (fail);go_wp2;go_roundw
 case rel=>exact⟨j+1,r,by go_num,rfl,zo,Q4.o,qz.o.trans ((aK (zBr _ wr) _).mono qz.o.size)⟩
 case measure=>exact zY):p:=h
theorem zzBJ {p:Prop} (h:p:=by
 clear Qo HB;go_upto_region 5 with fail
 go_quiet (fail);go_wp2;go_roundw
 case rel=>exact⟨j+1,b,by go_num,rfl,zo,Q4.o,qz.o.trans ((aK (zBr _ wr) _).mono qz.o.size)⟩
 case measure=>exact zY):p:=h
theorem zzA4 {p:Prop} (h:p:=by
 rcases (by omega:b<0\/(¬ b<0/\x<b)) with h4|⟨h4,h5⟩
 all_goals
  clear h3;go_upto_region 17 with fail
  go_quiet (fail);go_wp2;go_roundw
  case rel=>exact⟨i+1,x,by go_num,rfl,zo,HN.o,(HQ.o _).1,(HQ.o _).2⟩
  case measure=>exact zY):p:=h
theorem zzAk {p:Prop} (h:p:=by
 go_upto_region 17 with fail
 go_quiet (fail);go_wp2;go_roundw
 case rel=>exact⟨i+1,b,by go_num,rfl,zo,HN.o,(HQ.o _).1,(HQ.o _).2⟩
 case measure=>exact zY):p:=h
theorem zzAG {p:Prop} (h:p:=by
 have zJ:¬ (0:Int)<(J.length:Int):=by rw[Uv.2 ht];simp
 have Fp:=zh (WP.o ht);clear Uv ht LD PB yl jo;have Yx:wr.ownsRow 0 3 1 (.slice x5 row.length Hz) row.length (dP row):=Kj.o.1;have xn:=zh Yx;clear Yx
 go_wp2_with (first|(at_builtin;refine bM _ rfl _ _ rfl oY (.slice x5 row.length Hz) row.length (dP row) zr (by exact aN xn.o (iM.alloc bR _)) ⟨wr.heap.size,0,none⟩ 1 1 [.int .i64 (-1)] zr zr (cI _ #[.int .i64 (-1)] _ _ rfl) zd zd zo zd ?_;intro v9 w9 Qc YB Yz;obtain⟨g9,YG,rfl⟩:=cH Qc;have H9:=zh (zAi Qc (zAi YB Yz));clear Qc YB Yz))
 have Ks:=zh (HR.o.app Kj.o.1 Kj.o.2.1 H9.o.2.1 H9.o.1 H9.o.2.2);have Ba:=zh (HT.o.row Ks.o.2.2.2 H9.o.2.1 Kj.o.2.2);have JO:zH (∀ g,(Value.slice (some ⟨g9,0,none⟩) (row++[(-1)]).length YG).ownBlock=some g->w.heap.size<=g):=zh (λg hg=>by
  rcases H9.o.2.2 with e|e
  . exact Kj.o.2.2 g (e.symm.trans hg)
  have h9:(Value.slice (some ⟨g9,0,none⟩) (row.length+1) YG).ownBlock=some g:=hg
  rw[h9] at e;cases e;have:=HT.o.1.size;simp;omega)
 clear H9 xn;go_roundw
 case rel=>exact⟨k+1,_,row++[(-1)],S2,some ⟨g9,0,none⟩,YG,by go_num,zs,zo,Fp.o,Ks.o.1,Ba.o,by have h:=Ks.o.2.1;have h2:=Ks.o.2.2.1;exact⟨by simpa using h,by simpa using h2,JO.o⟩⟩
 case measure=>exact zY):p:=h
variable {e:TypeId} {v u v':Value} {n i k tb:Nat} {xs:ζ} {l T o:List Int} {w w1 w2:ω} {b:Int} {ob:Obj}
structure TS where
 vR:Value
 vL:Value
 vF:Value
 vC:Value
 vS:Value
 vG:Value
 fv:ζ
 sv:ζ
 gv:ζ
structure TD where
 rL:List (Value×Rng)
 last:List Int
 fL:List ο
 cU:List Int
 sE:List ο
 gO:List (List Int)
 bound:Int
structure gW (tb:Nat) (D:TD) (S:TS) (w:ω):Prop where
 blk:w.h tb #[S.vR,S.vL,S.vF,S.vC,S.vS,S.vG,ι D.bound] 116
 rR:w.r 190 1 S.vR (I D.rL) (D.rL.map (·.1))
 rr:∀ p∈D.rL,w.r 196 2 p.1 (I p.2) (fW p.2)
 lR:dA w S.vL D.last
 fR:w.r 24 1 S.vF (I D.fL) S.fv
 fli:∀ (i:Nat) (v:Value),S.fv[i]?=some v->dA w v (gE (χ D.fL i []))
 crow:dA w S.vC D.cU
 srow:w.r 24 1 S.vS (I D.sE) S.sv
 sli:∀ (i:Nat) (v:Value),S.sv[i]?=some v->dA w v (gE (χ D.sE i []))
 grow:w.r 24 1 S.vG (I D.gO) S.gv
 gli:∀ (i:Nat) (v:Value),S.gv[i]?=some v->dA w v (χ D.gO i [])
 a1:∀ g,β S.vS=some g->β S.vF≠some g/\β S.vG≠some g
 a2:∀ g,β S.vG=some g->β S.vF≠some g
section
variable {tb:Nat} {D:TD} {S:TS} {w w':ω}
theorem gW.lt (h:gW tb D S w):tb<w.t:=aA h.blk
theorem gW.below (h:gW tb D S w) (hb:w.u w'):gW tb D S w':=
 ⟨(hb.block _ h.lt).trans h.blk,aN h.rR hb,λp hp=>aN (h.rr p hp) hb,h.lR.below hb,aN h.fR hb,λi v hv=>(h.fli i v hv).below hb,h.crow.below hb,aN h.srow hb,λi v hv=>(h.sli i v hv).below hb,aN h.grow hb,λi v hv=>(h.gli i v hv).below hb,h.a1,h.a2⟩
theorem gW.cells (h:gW tb D S w):w.v tb 0 S.vR/\w.v tb 1 S.vL/\w.v tb 2 S.vF/\w.v tb 3 S.vC/\w.v tb 4 S.vS/\w.v tb 5 S.vG/\w.i tb 6 D.bound:=
 ⟨by rw[zQ 0 h.blk];rfl,by rw[zQ 1 h.blk];rfl,by rw[zQ 2 h.blk];rfl,by rw[zQ 3 h.blk];rfl,by rw[zQ 4 h.blk];rfl,by rw[zQ 5 h.blk];rfl,by rw[zQ 6 h.blk];rfl⟩
theorem rB (h:w.r e 1 v n xs) (hi:i<n):∃ g cap u,v=σ g n cap/\g<w.t/\xs[i]?=some u/\w.v g i u:=by
 have:I xs=n:=by have:=h.1;omega
 rcases aY h with⟨_,h0⟩|⟨g,cap,e,_,hg⟩
 . omega
 subst e
 exact⟨g,cap,_,rfl,hg,zLe zo,aJ h i _ (zLe zo)⟩
theorem rE (h:dA w v l) (hi:i<I l):∃ g cap,v=σ g (I l) cap/\g<w.t/\w.i g i (χ l i 0):=by
 obtain⟨g,cap,u,e,hg,hu,hc⟩:=rB h hi
 grind [gP]
end
theorem rin_any (v:Value) (l:Rng) (c:Int) (w:ω) (h:w.r 196 2 v (I l) (fW l)) (hl:I l<=9223372036854775807):
 Γ 112 #[v,ι c] w λe w'=>e=ρ (φ (inCl l c))/\w'=w:=by
 have hc:∀ (i:Nat) (r:Int×Int),l[i]?=some r->∃ g cap,v=σ g (I l) cap/\w.i g (i*2) r.1/\w.i g (i*2+1) r.2:=λi r hr=>by
  grind [aY,zce,aJ]
 obtain⟨ao,cap,rfl⟩:=kF h;have HC:=zh hc;have HL:=zh hl;clear h hc hl;go_in;go_wp2;go_loopw [5] (λs5 wr=>∃ i:Nat,s5=ι i/\i<=I l/\(∀ (j:Nat) (r:Int×Int),j<i->l[j]?=some r->¬ (r.1<=c/\c<=r.2))/\wr=w) (λs5 _=>I l-(ϑ s5).toNat)
 case atStart=>grind
 case round=>
  obtain⟨i,rfl,hi,xw,rfl⟩:=hrel;have j0:=zh xw;clear xw;by_cases Hf:i<I l
  . obtain⟨r,hr⟩:=zG l i Hf
    obtain⟨g,xq,e,c0,c1⟩:=HC.o i r hr;cases e;have HR:=zh hr;obtain⟨lo,Yj⟩:=r;dsimp only at c0 c1;have zl:=zt i (I l)
    have:=zW i zzBi;clear hr;by_cases h1:lo<=c
    . by_cases h2:c<=Yj
      . have HE:zH (inCl l c=true):=zh (zbU.2 ⟨_,zM HR.o,h1,h2⟩)
        go_wp2;go_ret;exact zzBp
      exact zzBZ
    exact zzBZ
  have zl:=zn i (I l)
  have HE:zH (inCl l c=false):=zh (by
   rw[<-Bool.not_eq_true,zbU];rintro⟨r,hr,h1,h2⟩;obtain⟨j,hj⟩:=List.mem_iff_getElem?.1 hr;exact j0.o j r zg hj ⟨h1,h2⟩)
  go_wp2;go_ret;exact zzBp
theorem zg1 (va vb:Value) (a b:List Int) (w:ω) (ha:dA w va a) (hb:dA w vb b) (X5:I a<=1000000):
 Γ 78 #[va,vb] w λe w'=>e=ρ (φ (decide (a=b)))/\w.u w':=by
 obtain⟨aoa,ca,BH⟩:=ha.form;obtain⟨aob,cb,NK⟩:=hb.form;subst BH NK;have HA:=zh ha;have HB:=zh hb;have HL:=zh X5;clear ha hb X5;go_in;by_cases Ho:I a=I b
 . have z:((I a:Int) != (I b:Int))=false:=by simp[Ho]
   have XC:=zh Ho;clear Ho;go_wp2;go_loopw [5] (λs5 wr=>∃ i:Nat,s5=ι i/\i<=I a/\(∀ j,j<i->χ a j 0=χ b j 0)/\w.u wr) (λs5 _=>I a-(ϑ s5).toNat)
   case atStart=>grind [zBr]
   case round=>
    obtain⟨i,rfl,hi,xw,YK⟩:=hrel;have j0:=zh xw;have qz:=zh YK;clear xw;by_cases Hf:i<I a
    . obtain⟨ga,ca',e,la,cga⟩:=rE (HA.o.below YK) Hf
      cases e;obtain⟨gb,cb',e,lb,cgb⟩:=rE (HB.o.below YK) (by rw[<-XC.o];exact Hf);cases e;have zl:=zt i (I a)
      have:(i:Int)<(I b:Int):=by have:=XC.o;omega
      have:=zW i zzBi;obtain⟨x,hx⟩:=zE (χ a i 0);obtain⟨y,hy⟩:=zE (χ b i 0);rw[<-hx] at cga;rw[<-hy] at cgb;have Sd:=Θ hx hy;clear hx hy YK;by_cases he:x=y
      . have z1:(x != y)=false:=by simp[he]
        have HE:=zh he;clear he;go_upto_region 6 with fail
        go_quiet (fail);go_wp2;go_roundw
        case rel=>exact⟨i+1,by go_num,zo,(λj hj=>by
         by_cases e:j=i
         . subst e;rw[<-Sd.o.1,<-Sd.o.2];grind
         exact j0.o j zo),qz.o.trans (aK (zBr _ wr) _ |>.mono qz.o.size)⟩
        grind [RowKit.intOf]
      have z1:(x != y)=true:=by simp[he]
      have HE:zH (decide (a=b)=false):=zh (decide_eq_false λh=>he (by rw[Sd.o.1,Sd.o.2,h]));clear he;go_upto_region 6 with fail
      go_quiet (fail);go_wp2;go_ret;exact⟨by rw[HE.o];rfl,qz.o.trans (aK (zBr _ wr) _ |>.mono qz.o.size)⟩
    have zl:=zn i (I a)
    have HE:zH (decide (a=b)=true):=zh (decide_eq_true (by
     apply List.ext_getElem XC.o;intro j h1 h2;have:=j0.o j zo
     grind))
    clear YK;go_wp2;go_ret;exact⟨by rw[HE.o];rfl,qz.o⟩
 have z:((I a:Int) != (I b:Int))=true:=zx
 have HE:zH (decide (a=b)=false):=zh (decide_eq_false λh=>Ho (by rw[h]));clear Ho;go_wp2;go_ret;exact⟨by rw[HE.o];rfl,iM⟩
def widR (c:Int):Int:=if c<128 then 1 else if c<2048 then 2 else if c<65536 then 3 else 4
theorem zi8 (c:Int) (w:ω):Γ 79 #[ι c] w λe w'=>e=ρ (ι (widR c))/\w'=w:=by
 unfold widR;by_cases h1:c<128
 . rw[zP h1]
   go_in;go_wp2;go_ret;simp
 rw[zN h1];by_cases h2:c<2048
 . rw[zP h2]
   go_in;go_wp2;go_ret;simp
 rw[zN h2];by_cases h3:c<65536
 . rw[zP h3]
   go_in;go_wp2;go_ret;simp
 rw[zN h3];go_in;go_wp2;go_ret;simp
theorem zcQ (tb:Nat) (D:TD) (S:TS) (w:ω) (h:gW tb D S w) (i:Nat) (hi:i<I D.sE) (hs:∀ x∈χ D.sE i [],x<I D.last) (hl:I (χ D.sE i [])<=1000000):
 Γ 80 #[bH tb,ι i] w λe w'=>e=ρ (ι ((χ D.sE i []).foldl (kK D.last) (-1)))/\w.u w':=by
 have H:=zh h;have HX:=Θ hs hl;have HI:=zh hi;obtain⟨s,hse⟩:=zE (χ D.sE i []);rw[<-hse] at HX ⊢;have LX:=zh hse;clear h hi hs hl hse;unfold bH;go_in;go_wp2;go_loopw [5,6] (λs5 s6 wr=>∃ (j:Nat) (b:Int),s6=ι j/\s5=ι b/\j<=I s/\b=(s.take j).foldl (kK D.last) (-1)/\w.u wr) (λ_ s6 _=>I s-(ϑ s6).toNat)
 case atStart=>grind [zBr]
 case round=>
  obtain⟨j,b,rfl,rfl,hj,hb,YK⟩:=hrel;have HB:=zh hb;have qz:=zh YK;have hr:=H.o.below YK;obtain⟨_,c1,_,_,c4,_⟩:=hr.cells;obtain⟨gs,caps,u,es,lgs,hu,cgs⟩:=rB hr.srow HI.o;have xj:=hr.sli i u hu;rw[<-LX.o] at xj;obtain⟨aou,cu,AL⟩:=xj.form;rw[bZ] at AL;subst AL;rw[es] at c4;have:(i:Int)<(I D.sE:Int):=by have:=HI.o;omega
  clear hb es hu;by_cases Hf:j<I s
  . have zl:=zt j (I s)
    have:=zW j (by have:=HX.o;omega);obtain⟨gu,cu',e,lgu,cgu⟩:=rE xj (by rw[bZ];exact Hf);rw[bZ] at e;cases e;rw[zbV Hf] at cgu;have hx:=HX.o.1 _ (zaJ Hf);have Xw:(s.take (j+1)).foldl (kK D.last) (-1)=kK D.last b (χ s j 0):=by
     rw[sK Hf,List.foldl_append,<-HB.o];rfl
    generalize s.getD j 0=x at cgu hx Xw;obtain⟨gl,capl,el,lgl,cgl⟩:=rE hr.lR hx;rw[el] at c1;have:=zt x (I D.last)
    have GY:kK D.last b x=if 0<=χ D.last x (-1)/\(b<0\/χ D.last x (-1)<b) then χ D.last x (-1) else b:=rfl
    have Ko:χ D.last x (-1)=χ D.last x 0:=by
     rw[zLf,zLf,zLe hx];rfl
    rw[Ko] at GY;rw[GY] at Xw;clear GY Ko;generalize D.last.getD x 0=r at cgl Xw;have Qo:=zh Xw;clear Xw el xj hr YK hx;by_cases h0:0<=r
    . by_cases h1:b<0
      . have Q4:zH (r=(s.take (j+1)).foldl (kK D.last) (-1)):=zh (by rw[Qo.o,zP ⟨h0,.inl h1⟩])
        exact zzBK
      by_cases h2:r<b
      . have Q4:zH (r=(s.take (j+1)).foldl (kK D.last) (-1)):=zh (by rw[Qo.o,zP ⟨h0,.inr h2⟩])
        exact zzBK
      have Q4:zH (b=(s.take (j+1)).foldl (kK D.last) (-1)):=zh (by rw[Qo.o,zN (λh=>zo)])
      exact zzBJ
    have Q4:zH (b=(s.take (j+1)).foldl (kK D.last) (-1)):=zh (by rw[Qo.o,zN (λh=>h0 h.1)])
    exact zzBJ
  have zl:=zn j (I s)
  have HE:zH (b=s.foldl (kK D.last) (-1)):=zh (by rw[HB.o,List.take_of_length_le zo]);clear HB xj hr YK;go_wp2;go_ret;exact⟨by rw[<-HE.o];rfl,qz.o⟩
theorem mem_ints {l:ο}:(k:Int)∈gE l↔k∈l:=by
 grind [gE]
theorem ints_snoc (l:ο) (k:Nat):gE (l++[k])=gE l++[(k:Int)]:=by simp[gE]
theorem zfW (c:Int):gZ c=cW c:=by
 grind [gZ,eW]
theorem ziW (p:Nat->Bool) (k:Nat):(List.range (k+1)).filter p=(List.range k).filter p++(if p k=true then[k] else[]):=by
 grind [List.range_succ]
theorem any_idx {l:ο} {p:Nat->Bool} (hi:i<I l) (h:p (χ l i 0)=true):l.any p=true:=List.any_eq_true.2 ⟨_,zaJ hi,h⟩
theorem any_none {l:ο} {p:Nat->Bool} (h:∀ j,j<I l->p (χ l j 0)=false):l.any p=false:=by
 grind [List.mem_iff_getElem]
def qY (D:TD) (set:ο) (c:Int):ο:=if cW c=true then (List.range (I D.rL)).filter (sB (D.rL.map (·.2)) D.fL set c) else[]
theorem ziV (tb:Nat) (D:TD) (S:TS) (w:ω) (h:gW tb D S w) (v:Value) (set:ο) (hv:dA w v (gE set)) (c:Int) (hc:0<=c/\c<=1114111)
 (hn:1<=I D.rL/\I D.rL<=65/\I D.fL=I D.rL) (Ht:∀ x∈set,x<I D.fL) (tz:I set<=1000) (Yi:∀ r∈D.fL,I r<=1000) (Qh:∀ p∈D.rL,I p.2<=9223372036854775807):
 Γ 77 #[bH tb,v,ι c] w λe w'=>∃ ao cap,e=ρ (τ ao (I (qY D set c)) cap)/\sW w.t (τ ao (I (qY D set c)) cap) (gE (qY D set c)) w w':=by
 have HS:=zh (yG c zo w);rw[zfW] at HS;obtain⟨aos,cs,DV⟩:=hv.form;rw[bZ] at DV;subst DV;have H:=zh h;have HV:=zh hv;have HX:=Ψ hn Ht tz (zAi Yi Qh);clear h hv hn Ht tz Yi Qh hc;unfold bH;by_cases BH:cW c=true
 . rw[BH] at HS
   have ve:zH (qY D set c=(List.range (I D.rL)).filter (sB (D.rL.map (·.2)) D.fL set c)):=zh (by unfold qY;grind);clear BH;generalize qY D set c=J at ve ⊢;go_in;go_wp2_with (first|(go_at_call 93;refine HS.o.mono ?_;rintro e' w1 ⟨rfl,rfl⟩))
   go_loopw [8,9] (λs8 s9 wr=>∃ (k:Nat) (o:ο) (ao:Option Addr) (cap:Nat),s9=ι k/\s8=τ ao (I o) cap/\1<=k/\k<=I D.rL/\o=(List.range k).filter (sB (D.rL.map (·.2)) D.fL set c)/\sW w1.t (τ ao (I o) cap) (gE o) w1 wr) (λ_ s9 _=>I D.rL-(ϑ s9).toNat)
   case atStart=>exact⟨1,[],none,0,rfl,rfl,bR,HX.o.1.1,zr,dA.nil _,λg hg=>(by cases hg),iM⟩
   case round=>
    obtain⟨k,o,ao,cap,rfl,rfl,Yr,hk,ho,hN⟩:=hrel;have HO:=zh ho;have HN:=zh hN;have Vd:I o<=65:=by
     rw[ho];have:=List.length_filter_le (sB (D.rL.map (·.2)) D.fL set c) (List.range k);rw[List.length_range] at this;have:=HX.o.1.2.1;omega
    have hr:=H.o.below hN.2.2;obtain⟨c0,_,c2,_⟩:=hr.cells;have Js:=hr.lt;obtain⟨aoR,cR,kh⟩:=bJ hr.rR;clear ho;by_cases Hf:k<I D.rL
    . have zl:=zt k (I D.rL)
      have yw:=zW k (by have:=HX.o.1;omega);obtain⟨gR,cR',u,eR,lgR,hu,cgR⟩:=rB hr.rR Hf;rw[eR] at c0;obtain⟨p,hp,ip⟩:∃ p,D.rL[k]?=some p/\p.1=u:=by
       grind
      have pm:=hr.rr p (zM hp);obtain⟨aou,cu,AL⟩:=kF pm;rw[<-ip,AL] at cgR;rw[AL] at pm;have AT:=zh (rin_any _ p.2 c wr pm (HX.o.2.2.2.2 p (zM hp)));have ym:inCl (χ (D.rL.map (·.2)) k []) c=inCl p.2 c:=by
       rw[zLf,List.getElem?_map,hp];rfl
      have Qo:zH ((List.range (k+1)).filter (sB (D.rL.map (·.2)) D.fL set c)=o++(if (inCl p.2 c&&set.any λi=>decide (k∈χ D.fL i []))=true then[k] else[])):=zh (by
       rw[ziW,<-HO.o];unfold sB
       grind)
      clear hu hp ip AL pm ym eR kh;generalize inCl p.2 c=m at AT Qo;have Bg:=zh hN;clear hN;cases m with
      | false=>
       have Kl:zH (o=(List.range (k+1)).filter (sB (D.rL.map (·.2)) D.fL set c)):=zh (by rw[Qo.o];simp);clear Qo;go_wp2_with (first|(go_at_call 112;refine AT.o.mono ?_;rintro e' w2 ⟨rfl,rfl⟩));go_roundw
       case rel=>exact⟨k+1,o,ao,cap,by go_num,rfl,zo,zo,Kl.o,HN.o⟩
       case measure=>exact zY
      | true=>
       rw[Bool.true_and] at Qo;have HR:=zh hr;clear hr;go_upto_region 10 with (go_at_call 112;refine AT.o.mono ?_;rintro e' w2 ⟨rfl,rfl⟩)
       clear c0 c2 Js cgR lgR;go_wp2;go_loopw [8,11] (λs8 VT wr=>∃ i:Nat,VT=ι i/\s8=τ ao (I o) cap/\i<=I set/\(∀ j,j<i->decide (k∈χ D.fL (χ set j 0) [])=false)/\sW w1.t (τ ao (I o) cap) (gE o) w1 wr) (λ_ VT _=>I set-(ϑ VT).toNat)
       case atStart=>exact⟨0,rfl,rfl,zo,λj hj=>zo,HN.o⟩
       case round=>
        obtain⟨i,rfl,rfl,hi,xw,Mf⟩:=hrel;have j0:=zh xw;have BZ:=zh Mf;clear xw;have hr:=H.o.below Mf.2.2;by_cases xj:i<I set
        . have zli:=zt i (I set)
          have au:=zW i (by have:=HX.o.2.2.1;omega);obtain⟨gs,cs',e,lgs,cgs⟩:=rE (HV.o.below Mf.2.2) (by rw[bZ];exact xj);rw[bZ] at e;cases e;rw[zbV xj] at cgs;have hx:=HX.o.2.1 _ (zaJ xj);have Yw:zH (k∈χ D.fL (χ set i 0) []->(set.any λi=>decide (k∈χ D.fL i []))=true):=zh (λhm=>any_idx (p:=λi=>decide (k∈χ D.fL i [])) xj (decide_eq_true hm))
          have B1:zH (¬ k∈χ D.fL (χ set i 0) []->∀ j,j<i+1->decide (k∈χ D.fL (χ set j 0) [])=false):=zh (λhm j hj=>by
           by_cases e:j=i
           . subst e;exact decide_eq_false hm
           exact j0.o j zo)
          generalize set.getD i 0=x at cgs hx Yw B1;obtain⟨_,_,c2,_⟩:=hr.cells;obtain⟨gF,cF,u,eF,lgF,hu,tQ⟩:=rB hr.fR hx;rw[eF] at c2;have Js:=hr.lt;have X7:=hr.fli x u hu;obtain⟨aou,cu,AL⟩:=X7.form;subst AL;have Zx:=zt x (I D.fL)
          have Qh:I (gE (χ D.fL x []))<=1000:=by
           rw[bZ];refine HX.o.2.2.2.1 _ ?_;rw[zLf,zLe hx];exact List.getElem_mem hx
          have HK:=zh (λn=>has_any _ (gE (χ D.fL x [])) k (wr.drewN n) (X7.below (aK (zBr _ wr) n)) (zT Qh zd));have YO:decide ((k:Int)∈gE (χ D.fL x []))=decide (k∈χ D.fL x []):=decide_eq_decide.2 mem_ints;rw[YO] at HK;have ey:=zh (λn=>(aK (zBr wr.t wr) n));clear YO Qh X7 hu eF hr Mf;generalize (I (gE (χ D.fL x [])))=nu at HK tQ;by_cases hm:k∈χ D.fL x []
          . rw[decide_eq_true hm] at HK
            have Kl:zH (o++[k]=(List.range (k+1)).filter (sB (D.rL.map (·.2)) D.fL set c)):=zh (by rw[Qo.o,zP (Yw.o hm)]);clear hm Yw B1 Qo;go_upto_region 13 with fail
            go_quiet ((go_at_call 76;exact Calls.quiet_of_same (HK.o _)));have Tr:zH (sW w1.t (τ ao (I o) cap) (gE o) w1 (wr.drewN nq)):=zh ⟨BZ.o.1.below (ey.o nq),BZ.o.2.1,BZ.o.2.2.trans ((ey.o nq).mono BZ.o.2.2.size)⟩;clear cgs tQ c2 lgs lgF Js HK;generalize wr.drewN nq=w4 at Tr ⊢;have Nv:w4.r 3 1 (τ ao (I o) cap) (I o) (dP (gE o)):=by have:=Tr.o.1;unfold dA at this;rwa [bZ] at this
            have xn:=zh Nv;clear Nv;go_wp2_with (first|(at_builtin;refine bM _ rfl _ _ rfl oY (τ ao (I o) cap) (I o) (dP (gE o)) zr zzBa w4.z 1 1 [ι k] zr zr (cI _ #[ι k] _ _ rfl) zzAU zd zo zd ?_;intro v5 w5 xk pd UL;obtain⟨g5,Xf,rfl⟩:=cH xk;have H5:=Λ xk pd UL;clear xk pd UL))
            have CE:zH (sW w1.t (σ g5 (I (o++[k])) Xf) (gE (o++[k])) w1 w5):=zh (by
             have SP:=H5.o.1;have Hv:=Tr.o.2.2.size;refine⟨?_,?_,?_⟩
             . unfold dA dP
               rw[bZ,ints_snoc,List.map_append,zLn];exact SP
             . exact iB H5.o.2.2 Tr.o.2.1 zx
             exact iK (Tr.o.2.2.trans ((zBr _ w4).alloc Hv _)) H5.o.2.1 zx Tr.o.2.1)
            clear H5 xn;go_roundw
            case rel=>exact⟨k+1,o++[k],some g5.a,Xf,by go_num,zs,zo,zo,Kl.o,CE.o⟩
            case measure=>exact zY
          rw[decide_eq_false hm] at HK
          have Kl:=zh (B1.o hm);clear hm Yw B1;go_upto_region 13 with fail
          go_quiet ((go_at_call 76;exact Calls.quiet_of_same (HK.o _)));go_wp2;go_roundw
          case rel=>exact⟨i+1,by go_num,rfl,zo,Kl.o,BZ.o.1.below (ey.o _),BZ.o.2.1,BZ.o.2.2.trans ((ey.o _).mono BZ.o.2.2.size)⟩
          case measure=>exact zY
        have zli:=zn i (I set)
        have Kl:zH (o=(List.range (k+1)).filter (sB (D.rL.map (·.2)) D.fL set c)):=zh (by
         rw[Qo.o,any_none (p:=λi=>decide (k∈χ D.fL i [])) (λj hj=>j0.o j zo)];simp)
        clear hr Mf;go_wp2;go_roundw
        case rel=>exact⟨k+1,o,ao,cap,by go_num,rfl,zo,zo,Kl.o,BZ.o⟩
        case measure=>exact zY
    have zl:=zn k (I D.rL)
    have HJ:zH (J=o):=zh (by rw[ve.o,HO.o,show k=D.rL.length by omega]);rw[kh] at c0;clear hr kh hN;go_wp2;go_ret;rw[HJ.o];exact⟨ao,cap,rfl,HN.o⟩
 have Ip:cW c=false:=by simpa using BH
 rw[Ip] at HS;have ve:zH (qY D set c=[]):=zh (by unfold qY;grind);clear BH Ip;generalize qY D set c=J at ve ⊢;go_in;go_wp2_with (first|(go_at_call 93;refine HS.o.mono ?_;rintro e' w1 ⟨rfl,rfl⟩));go_ret;rw[ve.o];exact⟨none,0,rfl,dA.nil _,λg hg=>(by cases hg),iM⟩
theorem vU {α:Type} [DecidableEq α]:∀ (l t:List α),l.Nodup->(∀ x∈l,x∈t)->I l<=I t
 | [],t,_,_=>rC
 | a::l,t,h,hs=>by
  have:a∈t:=hs a zs;rw[List.nodup_cons] at h;have:=vU l (t.erase a) h.2 (λx hx=>by
   grind)
  grind
theorem zbs (h:l.Pairwise (· < ·)):l.Nodup:=h.imp (λKJ e=>zo)
structure TKp (tb:Nat) (w w':ω):Prop where
 os:w'.os=w.os
 tape:w'.tape=w.tape
 output:w'.output=w.output
 size:w.heap.size<=w'.heap.size
 keep:∀ b,b<w.heap.size->b≠tb->w'.e w b
theorem TKp.of_below {w':ω} (h:w.u w'):TKp tb w w':=⟨h.os,h.tape,h.output,h.size,λb hb _=>h.block b hb⟩
theorem TKp.trans {u v:ω} (h:TKp tb u v) (k:TKp tb v w):TKp tb u w:=⟨k.os.trans h.os,k.tape.trans h.tape,k.output.trans h.output,zT h.size k.size,λb hb hn=>(k.keep b (zLd hb h.size) hn).trans (h.keep b hb hn)⟩
theorem TKp.set (tb o:Nat) (u:Value) (w:ω):TKp tb w (ς w (tb.p o) u):=⟨rfl,rfl,rfl,zs,λb _ hb=>aD _ _ _ _ hb⟩
theorem mW {b:Nat} {c1 c2:Array Value} {t1 t2:TypeId} (h1:w.h b c1 t1) (h2:w.h b c2 t2):t1=t2:=by
 grind
theorem gW.ne {D:TD} {S:TS} (h:gW tb D S w) {size g:Nat} (hr:w.r e size v n xs) (he:e≠116) (hg:β v=some g):g≠tb:=λe2=>by
 subst e2;obtain⟨cs,h2⟩:=dE hr hg;exact he (mW h2 h.blk)
theorem gW.setC {D:TD} {S:TS} (h:gW tb D S w) (hv:dA w v l):gW tb {D with cU:=l} {S with vC:=v} (ς w (tb.p 3) v):=by
 have hk:∀ g,g≠tb->(ς w (tb.p 3) v).e w g:=λg hg=>aD _ _ _ _ hg;have hl:∀ {u:Value} {l:List Int},dA w u l->dA (ς w (tb.p 3) v) u l:=λhu=>aU hu λg hg=>hk g (h.ne hu zd hg)
 exact⟨by rw[aB w tb 3 _ _ _ _ h.blk];rfl,aU h.rR λg hg=>hk g (h.ne h.rR zd hg),λp hp=>aU (h.rr p hp) λg hg=>hk g (h.ne (h.rr p hp) zd hg),hl h.lR,aU h.fR λg hg=>hk g (h.ne h.fR zd hg),λi u hu=>hl (h.fli i u hu),hl hv,aU h.srow λg hg=>hk g (h.ne h.srow zd hg),λi u hu=>hl (h.sli i u hu),aU h.grow λg hg=>hk g (h.ne h.grow zd hg),λi u hu=>hl (h.gli i u hu),h.a1,h.a2⟩
def CutM (D:TD) (i k:Nat) (l:List Int):Prop:=l.Nodup/\∀ x,x∈l↔x∈cJ\/(∃ p∈D.rL.take i,lE p.2 x)\/(∃ p,D.rL[i]?=some p/\lE (p.2.take k) x)
theorem cuts_snoc {l:Rng} {r:Int×Int} (h:l[k]?=some r) (x:Int):lE (l.take (k+1)) x↔lE (l.take k) x\/(x=r.1\/(r.2<1114111/\x=r.2+1)):=by
 unfold lE;have:=(List.getElem?_eq_some_iff.1 h).1;simp_all[List.take_add_one]
theorem CutM.zero (D:TD):CutM D 0 0 cJ:=by
 refine⟨zd,λx=>⟨.inl,?_⟩⟩;rintro (h|⟨p,hp,_⟩|⟨p,_,r,hr,_⟩)
 all_goals grind
theorem CutM.next {D:TD} {p:Value×Rng} (hp:D.rL[i]?=some p) (hk:I p.2<=k) (h:CutM D i k l):CutM D (i+1) 0 l:=by
 refine⟨h.1,λx=> ?_⟩;rw[h.2];have:=(List.getElem?_eq_some_iff.1 hp).1;have e:D.rL.take (i+1)=D.rL.take i++[p]:=by rw[List.take_add_one,hp];rfl
 rw[e];simp only[zMa,zMs];constructor
 . grind [List.take_of_length_le]
 rintro (h|⟨q,hq|rfl,hx⟩|⟨q,_,r,hr,_⟩)
 all_goals grind [List.take_of_length_le]
theorem CutM.step {D:TD} {p:Value×Rng} {r:Int×Int} (hp:D.rL[i]?=some p) (hr:p.2[k]?=some r) (h:CutM D i k l):
 (r.2<1114111->CutM D i (k+1) (dH (dH l [r.1]) [r.2+1]))/\(¬ r.2<1114111->CutM D i (k+1) (dH l [r.1])):=by
 have:∀ x,(x∈cJ\/(∃ p∈D.rL.take i,lE p.2 x)\/(∃ p,D.rL[i]?=some p/\lE (p.2.take (k+1)) x))↔x∈l\/(x=r.1\/(r.2<1114111/\x=r.2+1)):=λx=>by
  rw[h.2]
  grind [cuts_snoc]
 refine⟨λHf=>⟨kL (kL h.1),λx=> ?_⟩,λHf=>⟨kL h.1,λx=> ?_⟩⟩
 all_goals grind [qP]
theorem CutM.sub {D:TD} (hT:∀ x,x∈T↔x∈cJ\/∃ p∈D.rL,lE p.2 x) (h:CutM D i k l):(∀ x∈l,x∈T)/\I l<=I T:=by
 have hs:∀ x∈l,x∈T:=λx hx=>by
  rw[hT]
  rcases (h.2 x).1 hx with h|⟨p,hp,hx⟩|⟨p,hp,r,hr,hx⟩
  . grind
  . grind
  exact .inr ⟨p,zM hp,r,List.mem_of_mem_take hr,hx⟩
 exact⟨hs,vU l T h.1 hs⟩
theorem CutM.all {D:TD} (hT:∀ x,x∈T↔x∈cJ\/∃ p∈D.rL,lE p.2 x) (h:CutM D i 0 l) (hi:I D.rL<=i):∀ x,x∈l↔x∈T:=λx=>by
 rw[h.2,hT,List.take_of_length_le hi]
 grind
def yZ (o:List Int):Int:=χ o (I o-1) 0
def CndO (o:List Int) (x:Int):Prop:=I o=0\/yZ o<x
structure OutI (l o:List Int):Prop where
 rise:o.Pairwise (· < ·)
 sub:∀ x∈o,x∈l
 all:∀ x∈l,x∈o\/CndO o x
theorem last_max (h:o.Pairwise (· < ·)) {x:Int} (hx:x∈o):x<=yZ o:=by
 grind [sG,yZ,List.pairwise_iff_getElem]
theorem OutI.nil (l:List Int):OutI l []:=⟨List.Pairwise.nil,λx hx=>zg,λx _=>.inr (.inl rfl)⟩
def zga (l o:List Int) (i:Nat) (b:Int):Prop:=(b= -1/\∀ j,j<i->¬ CndO o (χ l j 0))\/(b∈l/\CndO o b/\∀ j,j<i->CndO o (χ l j 0)->b<=χ l j 0)
theorem OutI.push (h:OutI l o) (hb:b∈l) (hc:CndO o b) (hm:∀ j,j<I l->CndO o (χ l j 0)->b<=χ l j 0):OutI l (o++[b]):=by
 have Ot:yZ (o++[b])=b:=by
  unfold yZ;simp[zLf]
 refine⟨?_,λx hx=> ?_,λx hx=> ?_⟩
 . rw[List.pairwise_append]
   refine⟨h.rise,zs,λx hx y hy=> ?_⟩;rw[zMs] at hy;subst hy
   rcases hc with hc|hc
   . grind
   have:=last_max h.rise hx;omega
 . rcases List.mem_append.1 hx with hx|hx
   . exact h.sub x hx
   grind
 rcases h.all x hx with h1|h1
 . grind
 obtain⟨j,hj,e⟩:=sG.1 hx
 have:=hm j hj zg;rw[e] at this;by_cases AN:x=b
 . grind
 exact .inr (.inr zo)
theorem OutI.done (h:OutI l o) (hl:l.Nodup) (hT:T.Pairwise (· < ·)) (hm:∀ x,x∈l↔x∈T) (hd:I l<=I o\/∀ j,j<I l->¬ CndO o (χ l j 0)):o=T:=by
 refine vB o T h.rise hT λx=> ?_;rw[<-hm x];refine⟨h.sub x,λhx=> ?_⟩
 rcases hd with hd|hd
 . by_cases ho:x∈o
   . exact ho
   have:=vU (x::o) l (List.nodup_cons.2 ⟨ho,zbs h.rise⟩) (λy hy=>by
    rcases List.mem_cons.1 hy with rfl|hy
    . exact hx
    exact h.sub y hy)
   grind
 rcases h.all x hx with h1|h1
 all_goals grind [sG]
theorem li_one (w:ω) (x:Int):dA (κ w (Ω #[ι x] 3)) (σ w.t 1 1) [x]:=
 ⟨rfl,.inr ⟨w.t,1,_,rfl,rC,bA _ _ _ rfl,bR,zd,rfl,rfl⟩⟩
def pJ (w:ω) (v:Value) (l:List Int) (w':ω):Prop:=dA w' v l/\(∀ g,β v=some g->w.t<=g)/\w.u w'
theorem pJ.later (h:pJ w v l w1) (hb:w1.u w2):pJ w v l w2:=⟨h.1.below hb,h.2.1,h.2.2.trans (hb.mono h.2.2.size)⟩
theorem pJ.new {m:List Int} (h:pJ w u m w1) (hn:sW n v l w1 w2) (hw:n=w1.t):pJ w v l w2:=by
 subst hw;exact⟨hn.1,λg hg=>zT h.2.2.size (hn.2.1 g hg),h.2.2.trans (hn.2.2.mono h.2.2.size)⟩
theorem six_new (w:ω):pJ w (σ w.t 6 6) cJ (κ w (Ω #[ι 0,ι 128,ι 2048,ι 55296,ι 57344,ι 65536] 3)):=
 ⟨⟨rfl,.inr ⟨w.t,6,_,rfl,rC,bA _ _ _ rfl,bR,zd,rfl,rfl⟩⟩,λg hg=>by cases hg;simp,Ξ w _⟩
theorem best_skip (h:zga l o i b) (hc:¬ CndO o (χ l i 0)):zga l o (i+1) b:=by
 rcases h with⟨h1,h2⟩|⟨h1,h2,h3⟩
 . exact .inl ⟨h1,λj hj=>by
    grind⟩
 exact .inr ⟨h1,h2,λj hj MV=>by
  grind⟩
theorem best_take (h:zga l o i b) (hi:i<I l) (hc:CndO o (χ l i 0)) (hb:b<0\/χ l i 0<b) (yp:∀ x∈l,0<=x):zga l o (i+1) (χ l i 0):=by
 refine .inr ⟨sG.2 ⟨i,hi,rfl⟩,hc,λj hj MV=> ?_⟩;by_cases e:j=i
 . grind
 rcases h with⟨h1,h2⟩|⟨h1,h2,h3⟩
 all_goals grind
theorem best_keep (h:zga l o i b) (hb:¬ (b<0\/χ l i 0<b)):zga l o (i+1) b:=by
 rcases h with⟨h1,h2⟩|⟨h1,h2,h3⟩
 . omega
 exact .inr ⟨h1,h2,λj hj MV=>by
  grind⟩
def CutO2 (tb:Nat) (D:TD) (S:TS) (T:List Int) (w w':ω):Prop:=∃ vC,gW tb {D with cU:=T} {S with vC:=vC} w'/\TKp tb w w'
theorem CutO2.end {D:TD} {S:TS} {w':ω} (h:gW tb D S w) (ho:pJ w v o w') (e:o=T):CutO2 tb D S T w (w'.setCell (tb.p 3) v):=by
 subst e;exact⟨v,(h.below ho.2.2).setC ho.1,(TKp.of_below ho.2.2).trans (TKp.set _ _ _ _)⟩
theorem rcut_any (tb:Nat) (D:TD) (S:TS) (w:ω) (h:gW tb D S w) (T:List Int) (hT:∀ x,x∈T↔x∈cJ\/∃ p∈D.rL,lE p.2 x) (hTr:T.Pairwise (· < ·)) (hTl:I T<=50000)
 (hTp:∀ x∈T,0<=x) (hn:I D.rL<=65) (Qh:∀ p∈D.rL,I p.2<=9223372036854775807) (xu:∀ p∈D.rL,∀ r∈p.2,0<=r.1/\r.1<=1114111/\0<=r.2/\r.2<=1114111):
 Γ 35 #[bH tb] w λe w'=>e=ρ (ϕ #[])/\CutO2 tb D S T w w':=by
 have H:=zh h;have HX:=Ψ hTr hTl hTp (zAi hn (zAi Qh xu));have HT:=zh hT;clear h hT hTr hTl hTp hn Qh xu;unfold bH;go_in;go_wp2_with fail;go_loopw [2,3] (λs2 s3 wr=>∃ (i:Nat) (l:List Int) (ao:Option Addr) (cap:Nat),s3=ι i/\s2=τ ao (I l) cap/\i<=I D.rL/\CutM D i 0 l/\pJ w (τ ao (I l) cap) l wr) (λ_ s3 _=>I D.rL-(ϑ s3).toNat)
 case atStart=>exact⟨0,cJ,some w.z,6,rfl,rfl,zo,CutM.zero D,six_new w⟩
 case round=>
  obtain⟨i,l,ao,cap,rfl,rfl,hi,y7,Vd⟩:=hrel;have ug:=zh y7;have tK:=zh Vd;have hr:=H.o.below Vd.2.2;obtain⟨c0,_,_,c3,_⟩:=hr.cells;obtain⟨aoR,cR,kh⟩:=bJ hr.rR;by_cases Hf:i<I D.rL
  . have zl:=zt i (I D.rL)
    have yw:=zW i (by have:=HX.o.2.2.2.1;omega);obtain⟨p,hp⟩:=zG D.rL i Hf;have hpm:=zM hp;have U8:I l<=50000:=zT (y7.sub HT.o).2 HX.o.2.1;rw[kh] at c0;have HP:=zh hp;clear hr kh y7 Vd hp;go_wp2_with fail
    go_loopw [2,4] (λs2 s4 wr=>∃ (k:Nat) (l:List Int) (ao:Option Addr) (cap:Nat),s4=ι k/\s2=τ ao (I l) cap/\k<=I p.2/\CutM D i k l/\pJ w (τ ao (I l) cap) l wr) (λ_ s4 _=>I p.2-(ϑ s4).toNat)
    case atStart=>exact⟨0,l,ao,cap,rfl,rfl,zo,ug.o,tK.o⟩
    case round=>
     clear ug tK U8 c0 c3;obtain⟨k,l,ao,cap,rfl,rfl,hk,y7,Vd⟩:=hrel;have ug:=zh y7;have tK:=zh Vd;have hr:=H.o.below Vd.2.2;have U8:I l<=50000:=zT (y7.sub HT.o).2 HX.o.2.1;have XT:=HX.o.2.2.2.2.1 p hpm;obtain⟨c0,_,_,c3,_⟩:=hr.cells;obtain⟨gR,cR',u,eR,lgR,hu,cgR⟩:=rB hr.rR Hf;rw[eR] at c0;have ip:p.1=u:=by
      rw[List.getElem?_map,HP.o] at hu;cases hu;rfl
     have pm:=hr.rr p hpm;by_cases XR:k<I p.2
     . have zk:(k:Int)<(I p.2:Int):=zo
       have Jr:=mF k;obtain⟨r,pn⟩:=zG p.2 k XR;have Xm:=HX.o.2.2.2.2.2 p hpm r (zM pn);have Hl:=zh (y7.step HP.o pn);obtain⟨gu,cu,eu,lgu,cu0,cu1⟩:∃ g c,p.1=σ g (I p.2) c/\g<wr.t/\wr.i g (k*2) r.1/\wr.i g (k*2+1) r.2:=by
        rcases aY pm with⟨_,h0⟩|⟨g,c,e,_,hg⟩
        . omega
        have io:=pm
        rw[e] at io;obtain⟨q0,q1⟩:=zce p.2 k r pn;exact⟨g,c,e,hg,aJ io _ _ q0,aJ io _ _ q1⟩
       rw[<-ip,eu] at cgR;obtain⟨lo,Yj⟩:=r;dsimp only at Xm cu0 cu1 Hl;clear hr eR hu ip pm eu y7 Vd pn;go_upto_region 8 with fail
       have Hu:=(zBr wr.t wr).alloc bR (Ω #[ι lo,ι Yj] 196);have B3:=zh (tK.o.later Hu);have C6:zH ((κ wr (Ω #[ι lo,ι Yj] 196)).h wr.t #[ι lo,ι Yj] 196):=zh (bA _ _ _ rfl);clear Hu c0 c3 cgR cu0 cu1 lgR lgu tK;generalize wr.alloc (Ω #[ι lo,ι Yj] 196)=w3 at B3 C6 ⊢;generalize wr.heap.size=A at C6 ⊢;have a0:w3.i A 0 lo:=by rw[zQ 0 C6.o];rfl
       have lA:=aA C6.o;have qu:=(zBr w3.t w3).alloc bR (Ω #[ι lo] 3);have HK:=zh (lX _ _ _ _ (κ w3 (Ω #[ι lo] 3)) (B3.o.later qu).1 (li_one w3 lo) zo zs);have LJ:=zh (B3.o.later qu);have yg:=zh qu;clear qu;obtain⟨J,hJ⟩:=zE (dH l [lo]);rw[<-hJ] at HK Hl;have Zg:I J<=50001:=by rw[hJ];have:=zel [lo] l;simp at this;omega
       clear hJ;go_upto_region 9 with (go_at_call 34;refine HK.o.mono ?_;rintro e' w5 ⟨kt,co5,rfl,hn⟩;have CE:=zh hn;clear hn)
       have LK:=zh (LJ.o.new CE.o rfl);have hA5:=((yg.o.trans (CE.o.2.2.mono yg.o.size)).block A lA).trans C6.o;have a1:w5.i A 1 Yj:=by rw[zQ 1 hA5];rfl
       clear a0 lA C6 B3 LJ yg CE hA5;by_cases jq:Yj<1114111
       . have XZ:=zh (Hl.o.1 jq)
         have hwh:=lM (n:=Yj+1);have QT:=(zBr w5.t w5).alloc bR (Ω #[ι (Yj+1)] 3);have LL:=zh (LK.o.later QT);have HK:=zh (lX _ _ _ _ (κ w5 (Ω #[ι (Yj+1)] 3)) LL.o.1 (li_one w5 (Yj+1)) zo zs);clear Hl QT;go_wp2_with (first|(go_at_call 34;refine HK.o.mono ?_;rintro e' w7 ⟨ao7,co7,rfl,hn⟩;have ep:=zh hn;clear hn));go_roundw
         case rel=>exact⟨k+1,_,ao7,co7,by go_num,rfl,zo,XZ.o,LL.o.new ep.o rfl⟩
         case measure=>exact zY
       have XZ:=zh (Hl.o.2 zo)
       clear Hl;go_wp2;go_roundw
       case rel=>exact⟨k+1,J,kt,co5,by go_num,rfl,zo,XZ.o,LK.o⟩
       case measure=>exact zY
     have zk:¬ (k:Int)<(I p.2:Int):=zo
     have Qo:=zh (y7.next HP.o zo);obtain⟨aou,cu,eu⟩:=kF pm;rw[<-ip,eu] at cgR;clear hr eR hu ip pm eu y7 Vd;go_wp2;go_roundw
     case rel=>exact⟨i+1,l,ao,cap,by go_num,rfl,zo,Qo.o,tK.o⟩
     case measure=>exact zY
  have zl:=zn i (I D.rL)
  have YH:=y7.all HT.o zo;have U8:I l<=50000:=zT (y7.sub HT.o).2 HX.o.2.1;have Th:=Θ YH y7.1;have yp:∀ x∈l,0<=x:=λx hx=>HX.o.2.2.1 x ((YH x).1 hx);have Hn:=zh yp;rw[kh] at c0;clear hr kh y7 Vd YH yp ug;go_wp2
  go_loopg [6] (I l) (λgh s6 wr=>∃ (G:Nat) (o:List Int) (ao6:Option Addr) (XE:Nat),G=gh/\s6=τ ao6 (I o) XE/\G=I l-I o/\OutI l o/\pJ w (τ ao6 (I o) XE) o wr/\pJ w (τ ao (I l) cap) l wr/\∀ g,β (Value.slice ao6 (I o) XE)=some g->β (Value.slice ao (I l) cap)≠some g)
  case atStart=>exact⟨I l,[],none,0,rfl,rfl,zs,OutI.nil l,⟨dA.nil _,λg hg=>(by cases hg),tK.o.2.2⟩,tK.o,λg hg=>(by cases hg)⟩
  case round=>
   clear c0 c3 tK;obtain⟨G,o,ao6,XE,hG,rfl,hGe,I9,Co,Vd,Ez⟩:=hrel;have wG:=zh Ez;clear Ez;have HG:=Θ hG hGe;have HOI:=zh I9;have FG:=zh Co;have tK:=zh Vd;have hr:=H.o.below Vd.2.2;obtain⟨_,_,_,c3,_⟩:=hr.cells;have f3:=bN wr tb 3 _ _ hr.blk;have hol5:I o<=I l:=vU o l (zbs I9.rise) I9.sub;clear hG hGe hr;by_cases Du:I o<I l
   . have zl2:=zt (I o) (I l)
     clear I9 Co Vd;go_wp2;go_loopw [7,8] (λs7 s8 wr=>∃ (i:Nat) (b:Int),s8=ι i/\s7=ι b/\i<=I l/\zga l o i b/\pJ w (τ ao6 (I o) XE) o wr/\pJ w (τ ao (I l) cap) l wr) (λ_ s8 _=>I l-(ϑ s8).toNat)
     case atStart=>exact⟨0,-1,rfl,rfl,zo,.inl ⟨rfl,λj hj=>zo⟩,FG.o,tK.o⟩
     case round=>
      clear c3 f3 FG tK;obtain⟨i,b,rfl,rfl,hi,kv,Co,Vd⟩:=hrel;have HBI:=zh kv;have FG:=zh Co;have tK:=zh Vd;by_cases YP:i<I l
      . have zi:=zt i (I l)
        have au:=mF i;obtain⟨gl,cl,e,lgl,cgl⟩:=rE Vd.1 YP;cases e;have FQ:=zh (λh=>best_skip (i:=i) kv h);have V0:=zh (λh1 h2=>best_take kv YP h1 h2 Hn.o);have ee:=zh (λh=>best_keep (i:=i) kv h);generalize l.getD i 0=x at cgl FQ V0 ee
        have HQ:zH (∀ n,pJ w (τ ao6 (I o) XE) o (wr.drewN n)/\pJ w (σ gl (I l) cap) l (wr.drewN n)):=zh (λn=>⟨Co.later (aK (zBr _ wr) n),Vd.later (aK (zBr _ wr) n)⟩);have Qg:I o=0\/∃ m g c,I o=m+1/\ao6=some ⟨g,0,none⟩/\wr.i g m (yZ o)/\g<wr.t/\c=XE:=by
         rcases Nat.eq_zero_or_pos (I o) with h0|h0
         . omega
         obtain⟨g,c,e,lg,cg⟩:=rE Co.1 (i:=I o-1) zo
         cases e;exact .inr ⟨I o-1,g,XE,zo,rfl,cg,lg,rfl⟩
        clear kv Co Vd;have YA:(¬ CndO o x/\I o≠0/\¬ yZ o<x)\/(CndO o x/\(I o=0\/(I o≠0/\yZ o<x))/\(b<0\/x<b))\/(CndO o x/\(I o=0\/(I o≠0/\yZ o<x))/\¬ (b<0\/x<b)):=by
         unfold CndO;by_cases h1:I o=0<;>by_cases h2:yZ o<x<;>by_cases h3:(b<0\/x<b)<;>simp[h1,h2,h3]
        generalize yZ o=la at Qg YA
        rcases Qg with h0|⟨m,g,_,hm,rfl,cgo,lgo,_⟩
        . have z0:((I o:Int)==0)=true:=by simp[h0]
          rcases YA with⟨_,h,_⟩|⟨h1,_,h3⟩|⟨h1,_,h3⟩
          . exact absurd h0 h
          . have HN:=zh (V0.o h1 h3)
            clear FQ V0 ee h0 h1
            exact zzA4
          have HN:=zh (ee.o h3)
          have h4:¬ b<0:=λh=>h3 (.inl h);have h5:¬ x<b:=λh=>h3 (.inr h);clear FQ V0 ee h0 h1 h3;exact zzAk
        have z0:((I o:Int)==0)=false:=beq_eq_false_iff_ne.2 zo
        have SX:IntKind.i64.wrap ((I o:Int)-1)=(m:Int):=by rw[lM];omega
        have zm:=zt m (I o)
        rcases YA with⟨h1,_,h2⟩|⟨h1,h2,h3⟩|⟨h1,h2,h3⟩
        . have HN:=zh (FQ.o h1)
          clear FQ V0 ee h1 hm;exact zzAk
        . have HN:=zh (V0.o h1 h3)
          have h6:la<x:=zo
          clear FQ V0 ee h1 h2 hm
          exact zzA4
        have HN:=zh (ee.o h3)
        have h6:la<x:=zo
        have h4:¬ b<0:=λh=>h3 (.inl h);have h5:¬ x<b:=λh=>h3 (.inr h);clear FQ V0 ee h1 h2 h3 hm;exact zzAk
      have zi:=zn i (I l)
      have P0:i=I l:=zo
      subst P0;by_cases hb:b<0
      . have xw:∀ j,j<I l->¬ CndO o (χ l j 0):=by
         rcases kv with h|h
         . exact h.2
         have:=Hn.o b h.1;omega
        have HE:=zh (CutO2.end H.o Co (HOI.o.done Th.o.2 HX.o.1 Th.o.1 (.inr xw)));have hr:=H.o.below Vd.2.2;obtain⟨_,_,_,c3,_⟩:=hr.cells;have f3:=bN wr tb 3 _ _ hr.blk;clear xw kv Co Vd hr;go_wp2;go_end0;exact⟨rfl,HE.o⟩
      have HPU:zH (OutI l (o++[b])):=zh (by
       rcases kv with h|h
       . omega
       exact HOI.o.push h.1 h.2.1 h.2.2)
      have Nv:wr.r 3 1 (τ ao6 (I o) XE) (I o) (dP o):=Co.1;have xn:=zh Nv;clear kv Co Vd Nv
      go_wp2_with (first|(at_builtin;refine bM _ rfl _ _ rfl oY (τ ao6 (I o) XE) (I o) (dP o) zr zzBa wr.z 1 1 [ι b] zr zr (cI _ #[ι b] _ _ rfl) zzAU zd zo zd ?_;intro v5 w5 xk pd UL;obtain⟨g5,Xf,rfl⟩:=cH xk;have H5:=Λ xk pd UL;clear xk pd UL));have Hv:=FG.o.2.2.size
      have G8:∀ g,β (Value.slice ao (I l) cap)=some g->β (Value.slice ao6 (I o) XE)≠some g:=λg hg he=>wG.o g he hg;have HO5:zH (pJ w (σ g5 (I (o++[b])) Xf) (o++[b]) w5):=zh (by
       refine⟨?_,?_,?_⟩
       . unfold dA dP
         rw[List.map_append,zLn];exact H5.o.1
       . exact iB H5.o.2.2 FG.o.2.1 zx
       exact iK (FG.o.2.2.trans ((zBr _ wr).alloc Hv _)) H5.o.2.1 zx FG.o.2.1)
      have jo:zH (pJ w (τ ao (I l) cap) l w5/\∀ g,β (Value.slice (some g5.a) (I (o++[b])) Xf)=some g->β (Value.slice ao (I l) cap)≠some g):=zh (by
       have tz:∀ g,β (Value.slice ao (I l) cap)=some g->g<wr.t:=tK.o.1.lt;refine⟨⟨aU tK.o.1 λg hg=> ?_,tK.o.2.1,HO5.o.2.2⟩,λg hg he=> ?_⟩
       . exact eD (tz g hg) H5.o.2.1 (G8 g hg)
       rcases H5.o.2.2 with e|e
       . exact G8 g he (e.symm.trans hg)
       have h9:β (Value.slice (some g5.a) (I o+1) Xf)=some g:=hg
       rw[h9] at e;cases e;have:=tz _ he;simp at this;omega)
      clear G8;clear H5 xn;go_roundg (G-1)
      case rel=>exact⟨G-1,o++[b],some g5.a,Xf,rfl,zs,by have:=HG.o.2;simp;omega,HPU.o,HO5.o,jo.o.1,jo.o.2⟩
      case measure=>have:=HG.o;omega
   have zl2:=zn (I o) (I l)
   have HE:=zh (CutO2.end H.o Co (I9.done Th.o.2 HX.o.1 Th.o.1 (.inl zo)));clear I9 Co Vd;go_wp2;go_end0;exact⟨rfl,HE.o⟩
section
variable {tb:Nat} {D:TD} {S:TS} {w w0 w2:ω}
theorem gW.liK (h:gW tb D S w) {b:Option Nat} (hb:∀ g,b=some g->∃ cs,w.h g cs 24) (hk:∀ g,g<w.heap.size->g≠tb->b≠some g->w2.e w g) (hl:dA w v l):dA w2 v l:=
 aU hl λg hg=>hk g (hl.lt g hg) (h.ne hl zd hg) λe=>by
  obtain⟨cs,h1⟩:=hb g e;obtain⟨cs2,h2⟩:=dE hl hg
  grind
theorem gW.rgK (h:gW tb D S w) {b:Option Nat} (hb:∀ g,b=some g->∃ cs,w.h g cs 24) (hk:∀ g,g<w.heap.size->g≠tb->b≠some g->w2.e w g) {size:Nat} (hl:w.r e size v n xs) (he:e≠116) (Dh:e≠24):w2.r e size v n xs:=
 aU hl λg hg=>hk g (eE hl g hg) (h.ne hl he hg) λe=>by
  grind [dE]
theorem zh6 {α:Type} {l:List α} {x u:α} (hl:I l=n) (h:(l++[x])[i]?=some u):(i<n/\l[i]?=some u)\/(i=n/\u=x):=by
 grind
theorem zf5 {α:Type} {l:List α} {x d:α} :(i<I l->χ (l++[x]) i d=χ l i d)/\(i=I l->χ (l++[x]) i d=x):=by
 grind
theorem gW.pushS (h:gW tb D S w) {s:ο} (hu:dA w u (gE s)) (Hb:w2.r 24 1 v' (I D.sE+1) (S.sv++[u])) (YQ:∀ g,g<w.heap.size->β S.vS≠some g->w2.e w g) (hv:∀ g,β v'=some g->β S.vS=some g\/w.t<=g):
 gW tb {D with sE:=D.sE++[s]} {S with vS:=v',sv:=S.sv++[u]} (ς w2 (tb.p 4) v')/\(∀ g,g<w.heap.size->g≠tb->β S.vS≠some g->(ς w2 (tb.p 4) v').e w g):=by
 have hk:∀ g,g<w.heap.size->g≠tb->β S.vS≠some g->(ς w2 (tb.p 4) v').e w g:=λg h1 h2 h3=>by
  grind [aD]
 have hb:∀ g,β S.vS=some g->∃ cs,w.h g cs 24:=λg hg=>dE h.srow hg;have xj:∀ {v:Value} {l:List Int},dA w v l->dA (ς w2 (tb.p 4) v') v l:=λhl=>h.liK hb hk hl;have NF:β S.vS≠some tb:=λe=>h.ne h.srow zd e rfl;have:∀ g,β v'=some g->g≠tb:=λg Q2 e=>by
  subst e
  rcases hv g Q2 with e|e
  . grind
  have:=h.lt;omega
 have tz:I S.sv=I D.sE:=by have:=h.srow.1;omega
 refine⟨⟨?_,h.rgK hb hk h.rR zd zd,λp hp=>h.rgK hb hk (h.rr p hp) zd zd,xj h.lR,?_,λi u hu=>xj (h.fli i u hu),xj h.crow,?_,λi x hx=> ?_,?_,λi u hu=>xj (h.gli i u hu),λg hg=> ?_,h.a2⟩,hk⟩
 . rw[aB w2 tb 4 _ _ _ _ ((YQ tb h.lt NF).trans h.blk)];rfl
 . exact aU h.fR λg hg=>hk g (eE h.fR g hg) (h.ne h.fR zd hg) λe=>(h.a1 g e).1 hg
 . grind [aU,aD]
 . have hx:(S.sv++[u])[i]?=some x:=hx
   show dA _ x (gE (χ (D.sE++[s]) i []))
   rcases zh6 tz hx with⟨h1,h2⟩|⟨h1,rfl⟩
   . rw[zf5.1 h1];exact xj (h.sli i x h2)
   grind
 . exact aU h.grow λg hg=>hk g (eE h.grow g hg) (h.ne h.grow zd hg) λe=>(h.a1 g e).2 hg
 rcases hv g hg with e|e
 . exact h.a1 g e
 exact⟨λe2=>by have:=eE h.fR g e2;omega,λe2=>by have:=eE h.grow g e2;omega⟩
theorem gW.pushG (h:gW tb D S w) {s:List Int} (hu:dA w u s) (Hb:w2.r 24 1 v' (I D.gO+1) (S.gv++[u])) (hg:(κ w ob).grownBy w2 (β S.vG)) (qh:β v'=β S.vG\/β v'=some (κ w ob).heap.size):
 gW tb {D with gO:=D.gO++[s]} {S with vG:=v',gv:=S.gv++[u]} (ς w2 (tb.p 5) v')/\(∀ g,g<w.heap.size->g≠tb->β S.vG≠some g->(ς w2 (tb.p 5) v').e w g):=by
 have:(κ w ob).heap.size=w.heap.size+1:=zs
 have hk:∀ g,g<w.heap.size->g≠tb->β S.vG≠some g->(ς w2 (tb.p 5) v').e w g:=λg h1 h2 h3=>by
  grind [aD,eD]
 have hb:∀ g,β S.vG=some g->∃ cs,w.h g cs 24:=λg hg=>dE h.grow hg;have xj:∀ {v:Value} {l:List Int},dA w v l->dA (ς w2 (tb.p 5) v') v l:=λhl=>h.liK hb hk hl;have NF:β S.vG≠some tb:=λe=>h.ne h.grow zd e rfl;have hv:∀ g,β v'=some g->β S.vG=some g\/w.t<=g:=λg Q2=>by
  grind
 have:∀ g,β v'=some g->g≠tb:=λg Q2 e=>by
  subst e
  rcases hv g Q2 with e|e
  . grind
  have:=h.lt;omega
 have tz:I S.gv=I D.gO:=by have:=h.grow.1;omega
 refine⟨⟨?_,h.rgK hb hk h.rR zd zd,λp hp=>h.rgK hb hk (h.rr p hp) zd zd,xj h.lR,?_,λi u hu=>xj (h.fli i u hu),xj h.crow,?_,λi u hu=>xj (h.sli i u hu),?_,λi x hx=> ?_,λg I0=>⟨(h.a1 g I0).1,λe=> ?_⟩,λg hg=> ?_⟩,hk⟩
 . rw[aB w2 tb 5 _ _ _ _ ((eD h.lt hg NF).trans h.blk)];rfl
 . exact aU h.fR λg hg=>hk g (eE h.fR g hg) (h.ne h.fR zd hg) λe=>h.a2 g e hg
 . exact aU h.srow λg hg=>hk g (eE h.srow g hg) (h.ne h.srow zd hg) λe=>(h.a1 g hg).2 e
 . grind [aU,aD]
 . have hx:(S.gv++[u])[i]?=some x:=hx
   show dA _ x (χ (D.gO++[s]) i [])
   rcases zh6 tz hx with⟨h1,h2⟩|⟨h1,rfl⟩
   . rw[zf5.1 h1];exact xj (h.gli i x h2)
   grind
 . rcases hv g e with e2|e2
   . exact (h.a1 g I0).2 e2
   have:=eE h.srow g I0;omega
 rcases hv g hg with e|e
 . exact h.a2 g e
 exact λe2=>by have:=eE h.fR g e2;omega
def Priv (S:TS) (v:Value):Prop:=∀ g,β v=some g->β S.vL≠some g/\β S.vC≠some g/\(∀ u∈S.fv,β u≠some g)/\(∀ u∈S.sv,β u≠some g)/\∀ u∈S.gv,β u≠some g
theorem Priv.nil (S:TS):Priv S ν:=λg hg=>by cases hg
theorem gW.app (h:gW tb D S w) {row:List Int} {x:Int} (hv:dA w v row) (hp:Priv S v) (hg:(κ w ob).grownBy w2 (β v)) (Hb:w2.r 3 1 v' (I row+1) (dP row++[ι x])) (qh:β v'=β v\/β v'=some (κ w ob).heap.size):
 gW tb D S w2/\dA w2 v' (row++[x])/\Priv S v'/\(∀ g,g<w.heap.size->β v≠some g->w2.e w g):=by
 have:(κ w ob).heap.size=w.heap.size+1:=zs
 have hk:∀ g,g<w.heap.size->β v≠some g->w2.e w g:=λg h1 h2=>eD h1 hg h2;have DR:∀ {e:TypeId} {size n:Nat} {u:Value} {xs:ζ},w.r e size u n xs->e≠3->w2.r e size u n xs:=λhu he=>aU hu λg hg=>hk g (eE hu g hg) λe2=>by
  obtain⟨cs,h1⟩:=dE hu hg;obtain⟨cs2,h2⟩:=dE hv e2
  grind
 have xj:∀ {u:Value} {l:List Int},dA w u l->(∀ g,β v=some g->β u≠some g)->dA w2 u l:=λhu hn=>aU hu λg hg=>hk g (hu.lt g hg) λe=>hn g e hg;have YC:∀ {l:ζ} {i:Nat} {u:Value},l[i]?=some u->u∈l:=λh=>zM h
 refine⟨⟨?_,DR h.rR zd,λp hp=>DR (h.rr p hp) zd,xj h.lR λg hg=>(hp g hg).1,DR h.fR zd,λi u hu=>xj (h.fli i u hu) λg hg=>(hp g hg).2.2.1 u (YC hu),xj h.crow λg hg=>(hp g hg).2.1,DR h.srow zd,λi u hu=>xj (h.sli i u hu) λg hg=>(hp g hg).2.2.2.1 u (YC hu),DR h.grow zd,λi u hu=>xj (h.gli i u hu) λg hg=>(hp g hg).2.2.2.2 u (YC hu),h.a1,h.a2⟩,?_,λg Q2=> ?_,hk⟩
 . refine (hk tb h.lt λe=> ?_).trans h.blk
   obtain⟨cs,h1⟩:=dE hv e;exact absurd (mW h1 h.blk) zd
 . grind [dA,dP]
 rcases qh with e|e
 . exact hp g zg
 rw[Q2] at e
 cases e;have key:∀ {u:Value} {l:List Int},dA w u l->β u≠some (κ w ob).heap.size:=λhu e=>by have:=hu.lt _ e;omega
 have GI:∀ {l:ζ} {u:Value},u∈l->∃ i:Nat,l[i]?=some u:=λh=>List.mem_iff_getElem?.1 h;exact⟨key h.lR,key h.crow,λu hu=>by obtain⟨i,hi⟩:=GI hu;exact key (h.fli i u hi),λu hu=>by obtain⟨i,hi⟩:=GI hu;exact key (h.sli i u hi),λu hu=>by obtain⟨i,hi⟩:=GI hu;exact key (h.gli i u hi)⟩
end
structure GrowH (D:TD) (L:iT):Prop where
 ref:RefL (D.rL.map (·.2)) D.fL D.last L
 one:1<=I L.cL
 cU:D.cU=bG L.cL
 rng:∀ x∈D.cU,0<=x/\x<=1114111
 lc:I D.cU<=50000
 fL:∀ r∈D.fL,I r<=1000
 rl:∀ p∈D.rL,I p.2<=9223372036854775807
theorem after_toS {D:TD} {L:iT} (h:GrowH D L) (s:aZ) (c:Int):qY D (gU s (I L.cL)) c=gU (yK L s c) (I L.cL):=by
 have hl:=h.ref.ln;rw[List.length_map] at hl;unfold qY;by_cases hc:cW c=true
 . rw[zP hc,hl]
   exact after_eq h.ref s hc _ bR
 rw[zN hc,zcZ h.ref.le h.ref.fok s hc,zbn]
structure yX (L:iT) (ms:List aZ) (s:aZ) (Xq:List aZ) (k:Nat) (sE:List aZ) (row:List Int):Prop where
 eq:kG (bU L s (I L.cL)).1 (ms.drop k) sE row=kG (bU L s (I L.cL)).1 ms Xq []
 pre:Xq<+:sE
 nd:sE.Nodup
 le:I sE<=201
 low:∀ x∈sE,LowS x (I L.cL)
 hd:sE[0]?=some (1,0)
 len:I row=k
section
variable {L:iT} {ms Xq sE:List aZ} {s m:aZ} {k j:Nat} {row:List Int} {c:Int}
theorem zaI (hk:ms[k]?=some m):ms.drop k=m::ms.drop (k+1):=by
 grind [List.drop_eq_getElem_cons]
theorem yX.zero (h:yX L ms s Xq k sE row) (hk:ms[k]?=some (bP L.cL c)) (h0:yK L s c=(0,0)):yX L ms s Xq (k+1) sE (row++[-1]):=by
 refine⟨?_,h.pre,h.nd,h.le,h.low,h.hd,by simp[h.len]⟩;rw[<-h.eq,zaI hk,kG];have:(bU L s (I L.cL)).1.and (bP L.cL c)=(0,0):=h0
 grind
theorem yX.hit (h:yX L ms s Xq k sE row) (hk:ms[k]?=some (bP L.cL c)) (h0:yK L s c≠(0,0)) (hj:sE[j]?=some (yK L s c)):yX L ms s Xq (k+1) sE (row++[(j:Int)]):=by
 refine⟨?_,h.pre,h.nd,h.le,h.low,h.hd,by simp[h.len]⟩;obtain⟨GS,mc⟩:=List.getElem?_eq_some_iff.1 hj;have:sE.findIdx? (λx=>decide (x=yK L s c))=some j:=by
  rw[List.findIdx?_eq_some_iff_getElem];refine⟨GS,zg,λi hi=> ?_⟩;have YP:i<I sE:=Nat.lt_trans hi GS;have KY:sE[i]'YP≠sE[j]'GS:=λe=>by
   have:=List.pairwise_iff_getElem.1 h.nd i j YP GS hi
   grind
  rw[mc] at KY;simpa using KY
 rw[<-h.eq,zaI hk,kG]
 grind [yK]
theorem yX.full (h:yX L ms s Xq k sE row) (hk:ms[k]?=some (bP L.cL c)) (h0:yK L s c≠(0,0)) (xw:∀ x∈sE,x≠yK L s c) (hl:200<I sE):kG (bU L s (I L.cL)).1 ms Xq []=none:=by
 rw[<-h.eq,zaI hk,kG]
 grind [yK]
theorem yX.new (h:yX L ms s Xq k sE row) (hk:ms[k]?=some (bP L.cL c)) (h0:yK L s c≠(0,0)) (xw:∀ x∈sE,x≠yK L s c) (hl:¬ 200<I sE) (VP:LowS (yK L s c) (I L.cL)):yX L ms s Xq (k+1) (sE++[yK L s c]) (row++[(I sE:Int)]):=by
 refine⟨?_,h.pre.trans (List.prefix_append _ _),?_,zg,λx hx=> ?_,?_,by simp[h.len]⟩
 . rw[<-h.eq,zaI hk,kG]
   grind [yK]
 . rw[List.nodup_append]
   exact⟨h.nd,zs,λx hx y hy=>zg⟩
 . rcases List.mem_append.1 hx with hx|hx
   . exact h.low x hx
   grind
 have:=(List.getElem?_eq_some_iff.1 h.hd).1
 rw[zGl this];exact h.hd
end
structure uP (L:iT) (ms:List aZ) (i:Nat) (sE:List aZ) (rU:List Int) (gO:List (List Int)):Prop where
 m:sV L ms sE rU gO
 rl:I rU=i
 eq:cO L ms (202-i) sE rU gO=cO L ms 202 [(1,0)] [] []
 low:∀ x∈sE,LowS x (I L.cL)
theorem uP.start (L:iT) (ms:List aZ) (h1:1<=I L.cL):uP L ms 0 [(1,0)] [] []:=⟨sV.start L ms,rfl,rfl,λx hx=>by grind [low_start]⟩
section
variable {L:iT} {ms sE sets2:List aZ} {s:aZ} {i:Nat} {rU:List Int} {gO:List (List Int)} {row:List Int}
theorem uP.begin (h:uP L ms i sE rU gO) (hi:sE[i]?=some s):yX L ms s sE 0 sE []:=
 ⟨rfl,List.prefix_refl _,h.m.nd,h.m.max,h.low,h.m.hd,rfl⟩
theorem uP.loop (h:uP L ms i sE rU gO) (hi:sE[i]?=some s):cO L ms 202 [(1,0)] [] []=match kG (bU L s (I L.cL)).1 ms sE [] with
 | none=>none
 | some (sets2,row)=>cO L ms (202-(i+1)) sets2 (rU++[(bU L s (I L.cL)).2]) (gO++[row]):=by
 have YP:=(List.getElem?_eq_some_iff.1 hi).1;have:=h.m.max;have e:202-i=(202-(i+1))+1:=zo
 rw[<-h.eq,e,cO,zP (by rw[h.rl];exact YP)];have:χ sE (I rU) (0,0)=s:=by rw[h.rl,zLf,hi];rfl
 grind
theorem uP.next (h:uP L ms i sE rU gO) (hi:sE[i]?=some s) (hr:yX L ms s sE (I ms) sets2 row):uP L ms (i+1) sets2 (rU++[(bU L s (I L.cL)).2]) (gO++[row]):=by
 have YP:=(List.getElem?_eq_some_iff.1 hi).1;have hg:kG (bU L s (I L.cL)).1 ms sE []=some (sets2,row):=by
  rw[<-hr.eq,List.drop_length,kG]
 have:χ sE (I rU) (0,0)=s:=by rw[h.rl,zLf,hi];rfl
 refine⟨?_,by simp[h.rl],?_,hr.low⟩
 . have:=(h.m.step (by rw[h.rl];exact YP) (sets2:=sets2) (row:=row) zg).1
   grind
 rw[h.loop hi,hg]
theorem uP.full (h:uP L ms i sE rU gO) (hi:sE[i]?=some s) (hg:kG (bU L s (I L.cL)).1 ms sE []=none):cO L ms 202 [(1,0)] [] []=none:=by
 rw[h.loop hi,hg]
theorem uP.done (h:uP L ms i sE rU gO) (hi:I sE<=i):cO L ms 202 [(1,0)] [] []=some (rU,gO)/\I rU=I sE:=by
 have:=h.m.max;have:=h.m.le;have:=h.rl;have e:202-i=(202-(i+1))+1:=zo
 rw[<-h.eq,e,cO,zN zo]
 grind
end
def TFr (tb:Nat) (S:TS) (w w':ω):Prop:=TKp tb w w'/\(∀ g,β S.vS=some g->w.t<=g)/\∀ g,β S.vG=some g->w.t<=g
theorem TFr.later {S:TS} (h:TFr tb S w w1) (hb:w1.u w2):TFr tb S w w2:=⟨h.1.trans (TKp.of_below hb),h.2⟩
theorem TFr.row {S:TS} (h:TFr tb S w w1) (hk:∀ g,g<w1.heap.size->β v≠some g->w2.e w1 g) (hg:(κ w1 ob).grownBy w2 (β v)) (hv:∀ g,β v=some g->w.t<=g):TFr tb S w w2:=by
 have:(κ w1 ob).heap.size=w1.heap.size+1:=zs
 have:=hg.size;have:=h.1.size;exact⟨⟨hg.os.trans h.1.os,hg.tape.trans h.1.tape,hg.output.trans h.1.output,zo,λb hb hn=>(hk b zo (λe=>zg)).trans (h.1.keep b hb hn)⟩,h.2⟩
theorem TFr.push {S S2:TS} {v:Option Nat} (h:TFr tb S w w1) (hk:∀ g,g<w1.heap.size->g≠tb->v≠some g->w2.e w1 g) (hv:∀ g,v=some g->w.t<=g) (ho:w2.os=w1.os/\w2.tape=w1.tape/\w2.output=w1.output/\w1.heap.size<=w2.heap.size)
 (h2:∀ g,β S2.vS=some g->w.t<=g) (h3:∀ g,β S2.vG=some g->w.t<=g):TFr tb S2 w w2:=by
 have:=h.1.size;exact⟨⟨ho.1.trans h.1.os,ho.2.1.trans h.1.tape,ho.2.2.1.trans h.1.output,zo,λb hb hn=>(hk b zo hn (λe=>zg)).trans (h.1.keep b hb hn)⟩,h2,h3⟩
def mD (D:TD) (n:Nat) (sE:List aZ) (gO:List (List Int)):TD:={D with sE:=sE.map (gU · n),gO:=gO}
def GrowO (tb:Nat) (D:TD) (L:iT) (w:ω) (e:Ending) (w':ω):Prop:=
 TKp tb w w'/\match cO L ((bG L.cL).map (bP L.cL)) 202 [(1,0)] [] [] with
  | none=>e=ρ (φ false)
  | some (rU,gO)=>e=ρ (φ true)/\∃ sE S',uP L ((bG L.cL).map (bP L.cL)) (I rU) sE rU gO/\I rU=I sE/\gW tb (mD D (I L.cL) sE gO) S' w'
theorem pre_get {α:Type} {l m:List α} (h:l<+:m) {x:α} (hx:l[i]?=some x):m[i]?=some x:=by
 obtain⟨t,rfl⟩:=h
 grind
theorem zhG {α:Type} {l:List α} {f:α->ο} {x:α} (hx:l[i]?=some x):χ (l.map f) i []=f x:=by
 grind
theorem start_ne {L:iT} (kx:χ L.cL 0 []=[]) (s:aZ) (c:Int):(1,0)≠yK L s c:=λe=>by
 have:(yK L s c).has 0=true:=by rw[<-e];decide
 grind [zg7,fZ]
theorem ziA {D:TD} {S:TS} (h:gW tb D S w) (hn:1<=n/\n<=128) (h0:D.sE=[]/\D.gO=[]/\S.vS=ν/\S.vG=ν/\S.sv=[]/\S.gv=[]):
 ∃ S',gW tb (mD D n [(1,0)] []) S' (κ (κ (ς w (tb.p 4) (σ (w.t+1) 1 1)) (Ω #[ι 0] 3)) (Ω #[σ w.t 1 1] 24))/\
  TFr tb S' w (κ (κ (ς w (tb.p 4) (σ (w.t+1) 1 1)) (Ω #[ι 0] 3)) (Ω #[σ w.t 1 1] 24)):=by
 obtain⟨a1,a2,a3,a4,a5,a6⟩:=h0;have e1:(κ w (Ω #[ι 0] 3)).heap.size=w.heap.size+1:=zs
 have Hk:=(zBr w.t w).alloc bR (Ω #[ι 0] 3);have Hm:=Hk.alloc zo (Ω #[σ w.t 1 1] 24);have Hf:=h.lt;rw[<-World.setCell_alloc_past _ _ _ _ Hf,<-World.setCell_alloc_past _ _ _ _ zo];have hu:dA (κ w (Ω #[ι 0] 3)) (σ w.t 1 1) (gE [0]):=li_new w 0;have js:=h.below Hk
 have hp:=js.pushS (w2:=κ (κ w (Ω #[ι 0] 3)) (Ω #[σ w.t 1 1] 24)) (v':=σ (w.t+1) 1 1) (u:=σ w.t 1 1) (s:=[0]) hu
  (by rw[a1,a5];exact⟨rfl,.inr ⟨w.t+1,1,_,rfl,rC,bA _ _ _ (by rw[e1]),bR,zd,rfl,rfl⟩⟩)
  (λg hg _=>(iM.alloc bR _).block g hg) (λg hg=>by cases hg;simp)
 have ew:mD D n [(1,0)] []={D with sE:=D.sE++[[0]]}:=by
  unfold mD;rw[a1,List.map_singleton,zgL hn.1 hn.2,<-a2];rfl
 rw[ew];refine⟨_,hp.1,⟨⟨rfl,rfl,rfl,by simp[World.setCell];omega,λb hb hn=> ?_⟩,λg hg=> ?_,λg hg=> ?_⟩⟩
 . rw[aD _ _ _ _ hn]
   exact Hm.block b hb
 . cases hg
   simp
 have hg:β S.vG=some g:=hg
 rw[a4] at hg;cases hg
theorem zje {D:TD} {sE:List aZ} {gO:List (List Int)} {t:aZ}:mD D n (sE++[t]) gO={mD D n sE gO with sE:=(mD D n sE gO).sE++[gU t n]}:=by
 unfold mD;simp
theorem rgrow_any (tb:Nat) (D:TD) (S:TS) (w:ω) (h:gW tb D S w) (L:iT) (hH:GrowH D L) (h0:D.sE=[]/\D.gO=[]/\S.vS=ν/\S.vG=ν/\S.sv=[]/\S.gv=[]):
 Γ 36 #[bH tb] w (GrowO tb D L w):=by
 have HH:=zh hH;have Hf:=h.lt;have HF:=zh (ziA h (n:=I L.cL) ⟨hH.one,by have:=hH.ref.le;omega⟩ h0);obtain⟨_,_,_,_,c4,_⟩:=h.cells;rw[h0.2.2.1] at c4;have q4:=sX (o:=4) (o1:=.cells #[ι 0] 3) (o2:=.cells #[σ w.t 1 1] 24) h.blk;have Kf:tb<w.t+1:=zo
 obtain⟨ms,OK⟩:=zE ((bG L.cL).map (bP L.cL));have VW:zH (∀ e w',GrowO tb D L w e w'=(TKp tb w w'/\match cO L ms 202 [(1,0)] [] [] with
  | none=>e=ρ (φ false)
  | some (rU,gO)=>e=ρ (φ true)/\∃ sE S',uP L ms (I rU) sE rU gO/\I rU=I sE/\gW tb (mD D (I L.cL) sE gO) S' w')):=zh (λe w'=>by rw[OK];rfl)
 have HMS:zH (I ms=I D.cU/\∀ k,k<I D.cU->ms[k]?=some (bP L.cL (χ D.cU k 0))):=zh (by
  rw[OK,hH.cU]
  grind)
 clear OK h hH h0;unfold bH;go_in;go_upto_region 2 with fail
 clear c4 q4 Kf Hf;generalize (κ (ς w (tb.p 4) (σ (w.heap.size+1) 1 1)) (Ω #[ι 0] 3)).alloc (Ω #[σ w.heap.size 1 1] 24)=w1 at HF ⊢;go_wp2_with fail;go_loopw [3] (λs3 wr=>∃ (i:Nat) (sE:List aZ) (rU:List Int) (gO:List (List Int)) (S':TS),s3=ι i/\i<=I sE/\uP L ms i sE rU gO/\gW tb (mD D (I L.cL) sE gO) S' wr/\TFr tb S' w wr) (λs3 _=>202-(ϑ s3).toNat)
 case atStart=>
  obtain⟨S',h1,h2⟩:=HF.o;exact⟨0,[(1,0)],[],[],S',rfl,zs,uP.start L ms HH.o.one,h1,h2⟩
 case round=>
  clear HF;obtain⟨i,sE,rU,gO,S',rfl,hi,Qg,hr,xv⟩:=hrel;have HO:=zh Qg;have HR:=zh hr;have HT:=zh xv;obtain⟨_,_,_,_,c4,_⟩:=hr.cells;have Vt:wr.r 24 1 S'.vS (I sE) S'.sv:=by have:=hr.srow;simpa[mD] using this
  obtain⟨aoS,cS,Pp⟩:=bJ Vt;rw[Pp] at c4;have Js:=hr.lt;have h201:=Qg.m.max;by_cases Hf:i<I sE
  . have zl:=zt i (I sE)
    have yw:=mF i;obtain⟨s,hs⟩:=zG sE i Hf;have FP:=zh hs;have IB:=zh (Qg.begin hs);clear Qg hr xv Vt Pp hs;go_wp2_with fail
    go_loopw [4,5] (λs4 s5 wr=>∃ (k:Nat) (sets2:List aZ) (row:List Int) (S2:TS) (x5:Option Addr) (Hz:Nat),s5=ι k/\s4=τ x5 (I row) Hz/\k<=I D.cU/\yX L ms s sE k sets2 row/\gW tb (mD D (I L.cL) sets2 gO) S2 wr/\TFr tb S2 w wr/\dA wr (τ x5 (I row) Hz) row/\Priv S2 (τ x5 (I row) Hz)/\∀ g,β (Value.slice x5 (I row) Hz)=some g->w.t<=g) (λ_ s5 _=>I D.cU-(ϑ s5).toNat)
    case atStart=>exact⟨0,sE,[],S',none,0,rfl,rfl,zo,IB.o,HR.o,HT.o,dA.nil _,Priv.nil _,λg hg=>(by cases hg)⟩
    case round=>
     clear HR HT c4 Js;obtain⟨k,sets2,row,S2,x5,Hz,rfl,rfl,hk,Qm,hr,xv,xj⟩:=hrel;have HR:=zh hr;have HT:=zh xv;have Kj:=zh xj;have Qh:I row<=k:=Nat.le_of_eq Qm.len;have pf:k<=50000:=zT hk HH.o.lc;have h201b:=Qm.le;obtain⟨_,_,_,c3,c4,c5,_⟩:=hr.cells;have Js:=hr.lt;clear xj;by_cases XR:k<I D.cU
     . have zk:=zt k (I D.cU)
       have Jr:=mF k;have jp:dA wr S2.vC D.cU:=hr.crow;obtain⟨gC,capC,eC,lgC,cgC⟩:=rE jp XR
       replace c3:wr.v tb 3 S2.vC:=c3
       rw[eC] at c3;have GA:=HH.o.rng _ (sG.2 ⟨k,XR,rfl⟩);have K4:=HMS.o.2 k XR;obtain⟨c,SA⟩:=zE (χ D.cU k 0);rw[<-SA] at cgC GA K4;have iO:=pre_get Qm.pre FP.o;have Oa:=(List.getElem?_eq_some_iff.1 iO).1;have Vt:wr.r 24 1 S2.vS (I sets2) S2.sv:=by have:=hr.srow;simpa[mD] using this
       obtain⟨gS,capS,u,eS,lgS,hu,cgS⟩:=rB Vt Oa
       replace c4:wr.v tb 4 S2.vS:=c4
       rw[eS] at c4;have DL:=hr.sli i u hu;have Ko:χ ((mD D (I L.cL) sets2 gO).sE) i []=gU s (I L.cL):=zhG iO;rw[Ko] at DL;obtain⟨aou,cu,AL⟩:=DL.form;subst AL;have zi2:=zt i (I sets2)
       have V8:I D.rL=I L.cL:=by have:=HH.o.ref.ln;rwa [List.length_map] at this
       have xu:=(zBr wr.t wr).drew;have HK:=zh (ziV tb (mD D (I L.cL) sets2 gO) S2 wr.drew (hr.below xu) _ (gU s (I L.cL)) (DL.below xu) c GA ⟨by show 1<=I D.rL;rw[V8];exact HH.o.one,by show I D.rL<=65;rw[V8];exact HH.o.ref.le,by show I D.fL=I D.rL;rw[V8];exact HH.o.ref.fn⟩
        (λx hx=>by show x<I D.fL;rw[HH.o.ref.fn];exact (rT.1 hx).1) (by have:=zaW s (I L.cL);have:=HH.o.ref.le;omega) HH.o.fL HH.o.rl)
       have haf:qY (mD D (I L.cL) sets2 gO) (gU s (I L.cL)) c=gU (yK L s c) (I L.cL):=after_toS HH.o s c;rw[haf] at HK;have VP:LowS (yK L s c) (I L.cL):=toS_low HH.o.ref.le HH.o.ref.fok s c;have HSN:=zh (start_ne (L:=L) HH.o.ref.c0 s c);have WP:zH (yK L s c=(0,0)->yX L ms s sE (k+1) sets2 (row++[-1])):=zh (λh=>Qm.zero K4 h)
       have tH:zH (∀ j:Nat,yK L s c≠(0,0)->sets2[j]?=some (yK L s c)->yX L ms s sE (k+1) sets2 (row++[(j:Int)])):=zh (λj h1 h2=>Qm.hit K4 h1 h2);have D8:zH (yK L s c≠(0,0)->(∀ x∈sets2,x≠yK L s c)->200<I sets2->cO L ms 202 [(1,0)] [] []=none):=zh (λh1 h2 h3=>HO.o.full FP.o (Qm.full K4 h1 h2 h3))
       have uv:zH (yK L s c≠(0,0)->(∀ x∈sets2,x≠yK L s c)->¬ 200<I sets2->yX L ms s sE (k+1) (sets2++[yK L s c]) (row++[(I sets2:Int)])):=zh (λh1 h2 h3=>Qm.new K4 h1 h2 h3 VP);have FB:=Θ VP Qm.low;have CD:=zh Qm.hd;have Uv:=ofSet_nil VP;have Zg:=zaW (yK L s c) (I L.cL);have hle65:=HH.o.ref.le;clear Qm hr xv jp eC Vt eS hu DL Ko iO Oa V8 xu haf VP K4 SA GA;generalize yK L s c=to' at HK HSN WP tH D8 uv FB Uv Zg
       obtain⟨J,hJ⟩:=zE (gU to' (I L.cL));rw[<-hJ] at HK Uv Zg;have HJ:=zh hJ;clear hJ;generalize (I (gE (gU s (I L.cL))))=nu at HK cgS;go_upto_region 9 with fail
       refine zzAl ?_;refine bV (λw'=>w'.v tb 3 (σ gC (I D.cU) capC)/\w'.i gC k c/\w'.v tb 4 (σ gS (I sets2) capS)/\w'.v gS i (τ aou nu cu)) 16 zr ⟨c3,cgC,c4,cgS⟩ (λHc=> ?_);refine zzAC ?_;refine zzAt ?_;refine aE 14 Hc ?_;refine bY 15 (λK hK=> ?_);go_simp;go_at_call 77;refine HK.o.mono ?_;rintro e w5 ⟨tP,Y1,rfl,V9⟩;have hn:sW wr.t (τ tP (I J) Y1) (gE J) wr w5:=⟨V9.1,V9.2.1,(zBr wr.t wr).drew.trans V9.2.2⟩;clear V9;have yy:=zAi ((aG hn.2.2 (tb.p 3) Js).trans c3) (zAi ((aG hn.2.2 (gC.p k) lgC).trans cgC) (zAi ((aG hn.2.2 (tb.p 4) Js).trans c4) ((aG hn.2.2 (gS.p i) lgS).trans cgS)))
       refine hK.out _ _ (λ_=>yy) ?_;clear hK K Hc;refine zzAF ?_;refine bY 16 (λK hK=> ?_);go_simp;refine hK.out _ _ (λh=>absurd rfl h) ?_;clear hK K yy HK;refine zzAF ?_;refine zzAg ?_;have PB:=zh (HR.o.below hn.2.2);have yl:=zh (HT.o.later hn.2.2)
       have jo:zH (dA w5 (τ x5 (I row) Hz) row/\Priv S2 (τ x5 (I row) Hz)/\∀ g,β (Value.slice x5 (I row) Hz)=some g->w.t<=g):=zh ⟨Kj.o.1.below hn.2.2,Kj.o.2⟩;have wG:zH (∀ g,β (Value.slice tP (I J) Y1)=some g->β (Value.slice x5 (I row) Hz)≠some g):=zh (λg hg e=>by
        have h1:=hn.2.1 g hg;have h2:=Kj.o.1.lt g e;omega)
       have hJN:dA w5 (τ tP (I J) Y1) (gE J):=hn.1;have LD:=zh hJN;clear hn hJN HR HT Kj c3 cgC c4 cgS c5 Js lgC lgS zk zi2;go_wp2_with fail;go_loopw [7,8] (λs7 s8 wr=>∃ j:Nat,s8=ι j/\s7=ι (-1)/\1<=j/\j<=202/\(∀ j',1<=j'->j'<j->sets2[j']?≠some to')/\w5.u wr) (λ_ s8 _=>I sets2-(ϑ s8).toNat)
       case atStart=>exact⟨1,rfl,rfl,bR,zo,λj' h1 h2=>zo,iM⟩
       case round=>
        obtain⟨j,rfl,rfl,Ds,Pf,xw,YK⟩:=hrel;have j0:=zh xw;have HR:=zh (PB.o.below YK);have HT:=zh (yl.o.later YK);have Kj:zH (dA wr (τ x5 (I row) Hz) row/\Priv S2 (τ x5 (I row) Hz)/\∀ g,β (Value.slice x5 (I row) Hz)=some g->w.t<=g):=zh ⟨jo.o.1.below YK,jo.o.2⟩;have BU:=zh (LD.o.below YK);have qz:=zh YK;obtain⟨_,_,_,_,c4,_,_⟩:=HR.o.cells;have Js:=HR.o.lt
        have Vt:wr.r 24 1 S2.vS (I sets2) S2.sv:=by have:=HR.o.srow;simpa[mD] using this
        obtain⟨aoS,capS,Pp⟩:=bJ Vt;rw[Pp] at c4;have TE:=Θ Vt Pp;clear xw YK Vt Pp;by_cases xi:j<I sets2
        . have zj:=zt j (I sets2)
          by_cases ht:to'=(0,0)
          . exact zzAG
          have zJ:(0:Int)<(I J:Int):=by
           exact zzDS
          have SW:=mF j;obtain⟨gS,capS',u,eS,lgS,hu,cgS⟩:=rB TE.o.1 xi;rw[TE.o.2] at eS;cases eS;obtain⟨sj,SR⟩:=zG sets2 j xi;have DL:=HR.o.sli j u hu;have Ko:χ ((mD D (I L.cL) sets2 gO).sE) j []=gU sj (I L.cL):=zhG SR;rw[Ko] at DL;obtain⟨aou,cu,AL⟩:=DL.form;subst AL;have HK:=zh (zg1 _ _ _ _ wr DL BU.o (by rw[bZ];have:=zaW sj (I L.cL);omega))
          have YO:decide (gE (gU sj (I L.cL))=gE J)=decide (sj=to'):=decide_eq_decide.2 ⟨λh=>by
           rw[HJ.o] at h;refine zfI (FB.o.2 sj (zM SR)) FB.o.1 ?_;have h3:Function.Injective (λ(n:Nat)=>(n:Int)):=λa b h=>by have h:(a:Int)=(b:Int):=h;omega
           exact (List.map_inj_right (λa b h=>h3 h)).1 h,λh=>by rw[h,HJ.o]⟩
          rw[YO] at HK;generalize (I (gE (gU sj (I L.cL))))=nu at HK cgS;have HSJ:=zh SR;clear YO DL Ko hu SR;by_cases he:sj=to'
          . rw[decide_eq_true he] at HK
            have Fp:=zh (tH.o j ht (by rw[<-he];exact HSJ.o));clear he Uv ht;go_upto_region 15 with (go_at_call 78;refine HK.o.mono ?_;rintro e' w6 ⟨rfl,QT⟩;have Qs:=zh QT;clear QT)
            have vh:=zh (HR.o.below Qs.o);have QJ:=zh (HT.o.later Qs.o);have Vy:zH (dA w6 (τ x5 (I row) Hz) row/\Priv S2 (τ x5 (I row) Hz)/\∀ g,β (Value.slice x5 (I row) Hz)=some g->w.t<=g):=zh ⟨Kj.o.1.below Qs.o,Kj.o.2⟩;clear Kj HR HT cgS c4 lgS Js Qs qz PB yl jo LD BU TE;have Yx:w6.r 3 1 (τ x5 (I row) Hz) (I row) (dP row):=Vy.o.1;have xn:=zh Yx;clear Yx
            go_wp2_with (first|(at_builtin;refine bM _ rfl _ _ rfl oY (τ x5 (I row) Hz) (I row) (dP row) zr zzBa w6.z 1 1 [ι (j:Int)] zr zr (cI _ #[ι (j:Int)] _ _ rfl) zzAU zd zo zd ?_;intro v9 w9 Qc YB Yz;obtain⟨g9,YG,rfl⟩:=cH Qc;have H9:=Λ Qc YB Yz;clear Qc YB Yz))
            have Ks:=zh (vh.o.app Vy.o.1 Vy.o.2.1 H9.o.2.1 H9.o.1 H9.o.2.2);have Ba:=zh (QJ.o.row Ks.o.2.2.2 H9.o.2.1 Vy.o.2.2);have JO:zH (∀ g,β (Value.slice (some g9.a) (I (row++[(j:Int)])) YG)=some g->w.t<=g):=zh (λg hg=>by
             rcases H9.o.2.2 with e|e
             . exact Vy.o.2.2 g (e.symm.trans hg)
             have h9:β (Value.slice (some g9.a) (I row+1) YG)=some g:=hg
             rw[h9] at e;cases e;have:=QJ.o.1.size;simp;omega)
            clear H9 xn;go_roundw
            case rel=>exact⟨k+1,_,row++[(j:Int)],S2,some g9.a,YG,by go_num,zs,zo,Fp.o,Ks.o.1,Ba.o,by have h:=Ks.o.2.1;have h2:=Ks.o.2.2.1;exact⟨by simpa using h,by simpa using h2,JO.o⟩⟩
            case measure=>exact zY
          rw[decide_eq_false he] at HK
          have Wn:zH (∀ j',1<=j'->j'<j+1->sets2[j']?≠some to'):=zh (λj' h1 h2 h3=>by
           by_cases e:j'=j
           . subst e
             rw[HSJ.o] at h3;cases h3;exact he rfl
           exact j0.o j' h1 zo h3)
          clear he;go_wp2_with (first|(go_at_call 78;refine HK.o.mono ?_;rintro e' w6 ⟨rfl,QT⟩;have Qs:=zh QT;clear QT));go_roundw
          case rel=>exact⟨j+1,by go_num,rfl,zo,zo,Wn.o,qz.o.trans (Qs.o.mono qz.o.size)⟩
          case measure=>exact zY
        have zj:=zn j (I sets2)
        by_cases ht:to'=(0,0)
        . exact zzAG
        have zJ:(0:Int)<(I J:Int):=by
         exact zzDS
        have YH:∀ x∈sets2,x≠to':=λx hx e=>by
         obtain⟨q,hq⟩:=List.mem_iff_getElem?.1 hx;rw[e] at hq
         rcases Nat.eq_zero_or_pos q with h0|h0
         . subst h0
           rw[CD.o] at hq;cases hq;exact HSN.o rfl
         exact j0.o q h0 (by have:=(List.getElem?_eq_some_iff.1 hq).1;omega) hq
        by_cases KC:200<I sets2
        . have z2:(200:Int)<(I sets2:Int):=zo
          have HE:=zh (D8.o ht YH KC);clear Uv ht YH KC;go_wp2;go_ret;rw[VW.o,HE.o];exact⟨HT.o.1,rfl⟩
        have z2:¬ (200:Int)<(I sets2:Int):=zo
        have Fp:=zh (uv.o ht YH KC);clear Uv ht YH KC PB yl jo LD;go_upto_region 21 with fail
        go_upto_region 22 with (at_builtin;refine bM _ rfl _ _ rfl zd9 (τ aoS (I sets2) capS) (I sets2) S2.sv zr (by exact aN (TE.o.2▸TE.o.1) (iM.alloc bR _)) wr.z 1 1 [τ tP (I J) Y1] zr zr (cI _ #[τ tP (I J) Y1] _ _ rfl) zzAU zd zo zd ?_;intro v7 w7 jd VK UM;obtain⟨g7,YM,rfl⟩:=cH jd;have KX:(κ wr (Ω #[τ tP (I J) Y1] 24)).grownBy w7 (β S2.vS):=(by rw[TE.o.2];exact VK);have q7:=(eD HR.o.lt KX (λe=>HR.o.ne HR.o.srow zd e rfl)).trans HR.o.blk;have c7:=zQ 4 q7;have f7:=bN w7 tb 4 _ _ q7;have H7:=Λ jd KX UM;clear jd VK UM KX q7)
        have Ik:∀ g,β (Value.slice (some g7.a) (I sets2+1) YM)=some g->β S2.vS=some g\/wr.t<=g:=λg hg=>by
         rcases H7.o.2.2 with e|e
         . rw[TE.o.2];exact .inl (e.symm.trans hg)
         rw[hg] at e;cases e;simp
        have hp:=HR.o.pushS (w2:=w7) (v':=σ g7 (I sets2+1) YM) (u:=τ tP (I J) Y1) (s:=J) BU.o (by have h9:=H7.o.1;simpa[mD] using h9) (λg h1 h2=>eD h1 H7.o.2.1 h2) Ik;rw[HJ.o,<-zje] at hp
        have Mn:TFr tb {S2 with vS:=σ g7 (I sets2+1) YM,sv:=S2.sv++[τ tP (I J) Y1]} w (ς w7 (tb.p 4) (σ g7 (I sets2+1) YM)):=HT.o.push (v:=β S2.vS) hp.2 HT.o.2.1 ⟨H7.o.2.1.os,H7.o.2.1.tape,H7.o.2.1.output,by have:=H7.o.2.1.size;simp[World.setCell] at this ⊢;omega⟩ (λg hg=>by
         rcases Ik g hg with e|e
         . exact HT.o.2.1 g e
         exact zT HT.o.1.size e) HT.o.2.2
        have Oy:dA (ς w7 (tb.p 4) (σ g7 (I sets2+1) YM)) (τ x5 (I row) Hz) row:=HR.o.liK (b:=β S2.vS) (λg hg=>dE HR.o.srow hg) hp.2 Kj.o.1;have vh:zH (gW tb (mD D (I L.cL) (sets2++[to']) gO) {S2 with vS:=σ g7 (I sets2+1) YM,sv:=S2.sv++[τ tP (I J) Y1]} (ς w7 (tb.p 4) (σ g7 (I sets2+1) YM))):=zh (by have h9:=hp.1;rw[<-HJ.o] at h9;exact h9);have QJ:=zh Mn
        have Vy:zH (dA (ς w7 (tb.p 4) (σ g7 (I sets2+1) YM)) (τ x5 (I row) Hz) row/\Priv {S2 with vS:=σ g7 (I sets2+1) YM,sv:=S2.sv++[τ tP (I J) Y1]} (τ x5 (I row) Hz)/\∀ g,β (Value.slice x5 (I row) Hz)=some g->w.t<=g):=zh ⟨Oy,λg hg=>by
         obtain⟨a1,a2,a3,a4,a5⟩:=Kj.o.2.1 g hg;refine⟨a1,a2,a3,λx hx=> ?_,a5⟩
         rcases List.mem_append.1 hx with hx|hx
         . exact a4 x hx
         rw[zMs] at hx
         subst hx;exact λe=>wG.o g e hg,Kj.o.2.2⟩
        clear hp Mn Oy Ik H7 c7 f7 c4 Js Kj HR HT TE BU qz;generalize ({S2 with vS:=σ g7 (I sets2+1) YM,sv:=S2.sv++[τ tP (I J) Y1]}:TS)=S7 at vh QJ Vy;generalize w7.setCell (tb.p 4) (σ g7 (I sets2+1) YM)=w6 at vh QJ Vy ⊢;have Yx:w6.r 3 1 (τ x5 (I row) Hz) (I row) (dP row):=Vy.o.1;have xn:=zh Yx;clear Yx
        go_wp2_with (first|(at_builtin;refine bM _ rfl _ _ rfl oY (τ x5 (I row) Hz) (I row) (dP row) zr zzBa w6.z 1 1 [ι (I sets2:Int)] zr zr (cI _ #[ι (I sets2:Int)] _ _ rfl) zzAU zd zo zd ?_;intro v9 w9 Qc YB Yz;obtain⟨g9,YG,rfl⟩:=cH Qc;have H9:=Λ Qc YB Yz;clear Qc YB Yz))
        have Ks:=zh (vh.o.app Vy.o.1 Vy.o.2.1 H9.o.2.1 H9.o.1 H9.o.2.2);have Ba:=zh (QJ.o.row Ks.o.2.2.2 H9.o.2.1 Vy.o.2.2);have JO:zH (∀ g,β (Value.slice (some g9.a) (I (row++[(I sets2:Int)])) YG)=some g->w.t<=g):=zh (λg hg=>by
         rcases H9.o.2.2 with e|e
         . exact Vy.o.2.2 g (e.symm.trans hg)
         have h9:β (Value.slice (some g9.a) (I row+1) YG)=some g:=hg
         rw[h9] at e;cases e;have:=QJ.o.1.size;simp;omega)
        clear H9 xn;go_roundw
        case rel=>exact⟨k+1,_,row++[(I sets2:Int)],S7,some g9.a,YG,by go_num,zs,zo,Fp.o,Ks.o.1,Ba.o,by have h:=Ks.o.2.1;have h2:=Ks.o.2.2.1;exact⟨by simpa using h,by simpa using h2,JO.o⟩⟩
        case measure=>exact zY
     have zk:=zn k (I D.cU)
     have pg:k=I ms:=by rw[HMS.o.1];omega
     have Qo:zH (uP L ms (i+1) sets2 (rU++[(bU L s (I L.cL)).2]) (gO++[row])):=zh (HO.o.next FP.o (by rw[<-pg];exact Qm));have jp:dA wr S2.vC D.cU:=hr.crow;obtain⟨aoC,capC,hvC⟩:=jp.form
     replace c3:wr.v tb 3 S2.vC:=c3
     rw[hvC] at c3;have xh:I gO<=201:=by rw[HO.o.m.lg,HO.o.rl];omega
     have Cj:wr.r 24 1 S2.vG (I gO) S2.gv:=hr.grow;obtain⟨aoG,capG,hvG⟩:=bJ Cj
     replace c5:wr.v tb 5 S2.vG:=c5
     rw[hvG] at c5;have IC:=Θ Cj hvG;have XT:=Qm.pre.length_le;have uz:zH (i+1<=I sets2):=zh zo;have IG:zH (i<=201):=zh zo;clear Qm hr xv jp hvC Cj hvG pg c4;go_upto_region 23 with fail
     go_upto_region 4 with (at_builtin;refine bM _ rfl _ _ rfl zd9 (τ aoG (I gO) capG) (I gO) S2.gv zr (by exact aN (IC.o.2▸IC.o.1) (iM.alloc bR _)) wr.z 1 1 [τ x5 (I row) Hz] zr zr (cI _ #[τ x5 (I row) Hz] _ _ rfl) zzAU zd zo zd ?_;intro v7 w7 jd VK UM;obtain⟨g7,YM,rfl⟩:=cH jd;have KX:(κ wr (Ω #[τ x5 (I row) Hz] 24)).grownBy w7 (β S2.vG):=(by rw[IC.o.2];exact VK);have q7:=(eD HR.o.lt KX (λe=>HR.o.ne HR.o.grow zd e rfl)).trans HR.o.blk;have c7:=zQ 5 q7;have f7:=bN w7 tb 5 _ _ q7;have H7:=Λ jd KX UM;clear jd VK UM KX q7)
     have Ik:∀ g,β (Value.slice (some g7.a) (I gO+1) YM)=some g->β S2.vG=some g\/wr.t<=g:=λg hg=>by
      rcases H7.o.2.2 with e|e
      . rw[IC.o.2];exact .inl (e.symm.trans hg)
      rw[hg] at e;cases e;simp
     have hp:=HR.o.pushG (w2:=w7) (v':=σ g7 (I gO+1) YM) (u:=τ x5 (I row) Hz) (s:=row) Kj.o.1 H7.o.1 H7.o.2.1 (by rw[IC.o.2];exact H7.o.2.2)
     have Mn:TFr tb {S2 with vG:=σ g7 (I gO+1) YM,gv:=S2.gv++[τ x5 (I row) Hz]} w (ς w7 (tb.p 5) (σ g7 (I gO+1) YM)):=HT.o.push (v:=β S2.vG) hp.2 HT.o.2.2 ⟨H7.o.2.1.os,H7.o.2.1.tape,H7.o.2.1.output,by have:=H7.o.2.1.size;simp[World.setCell] at this ⊢;omega⟩ HT.o.2.1 (λg hg=>by
      rcases Ik g hg with e|e
      . exact HT.o.2.2 g e
      exact zT HT.o.1.size e)
     have JU:zH (gW tb (mD D (I L.cL) sets2 (gO++[row])) {S2 with vG:=σ g7 (I gO+1) YM,gv:=S2.gv++[τ x5 (I row) Hz]} (ς w7 (tb.p 5) (σ g7 (I gO+1) YM))):=zh hp.1;have TF:=zh Mn;clear hp Mn Ik H7 c7 f7 Kj HR HT IC c3 c5 Js;generalize ({S2 with vG:=σ g7 (I gO+1) YM,gv:=S2.gv++[τ x5 (I row) Hz]}:TS)=S7 at JU TF
     generalize w7.setCell (tb.p 5) (σ g7 (I gO+1) YM)=w8 at JU TF ⊢;go_wp2;go_roundw
     case rel=>exact⟨i+1,sets2,_,gO++[row],S7,by go_num,uz.o,Qo.o,JU.o,TF.o⟩
     case measure=>have:=IG.o;(simp[RowKit.intOf]<;>omega)
  have zl:=zn i (I sE)
  have hd:=Qg.done zo;have HD:=Θ hd.1 hd.2;clear Qg hr xv Vt Pp hd;go_wp2;go_ret;rw[VW.o,HD.o.1];exact⟨HT.o.1,rfl,sE,S',by rw[HO.o.rl];exact HO.o,HD.o.2,HR.o⟩
