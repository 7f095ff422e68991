/- Part of a proof. No condition. -/
import Derived.Test.YtghpmhllpaheiaaGreatDoorF39
import Derived.Test.YtghpmhllpaheiaaGreatDoorF21
set_option linter.unusedVariables false
set_option linter.unusedSimpArgs false
set_option maxRecDepth 100000
set_option maxHeartbeats 4000000
namespace Go.Proofs.YtghpmhllpaheiaaGreatDoor
open Go.RowKit Go.Lib
abbrev tooMany:Ending:=.panicked [{v:=.iface 51 (.int .i64 6),recovered:=false}]
def LayX (tag:Nat->Nat) (w:World) (e:Ending) (w':World):Prop:=e=tooMany/\∃ Hd,dL tag Hd w w'
def LayN (t:aJ):Prop:=∀ (i:Nat) (s:bA) (w:World) (tag:Nat->Nat) (bl bm:Nat) (Hc:List Nat) (rU:List Int) (fO:List aW) (v:Value),
 gZ w tag bl bm Hc s rU fO->rU.length=s.cL.length->s.bE.length=s.cL.length->0<s.cL.length->aX (λg=>tag g=7/\g<w.heap.size) w t v->i<s.kN.length->eD t i s=none->(s.cL.length<=65/\∀ k,(bC s.kN k).length+lS t s.cL.length<=1000000)->
 Calls Tryz.prog 57 #[.pointer (some ⟨bm,0,none⟩),v,aK (Hc.getD i 0)] w (LayX tag w)
def PanD (Pn:List PanicEntry->World->Prop) (Q:Exit->Act->World->Prop):Exit->Act->World->Prop
 | .panic c,a,w=>Pn c w/\a.defers=[]
 | e,a,w=>Q e a w
theorem uX {P:Program} {id:Nat} {ops:Array Oper} {b:Bool} {Q:Exit->Act->World->Prop} {a:Act} {w:World} (Pn:List PanicEntry->World->Prop) (hp:∀ c a w,Pn c w->a.defers=[]->Q (.panic c) a w) (h:(Code.region id ops b).wp P (PanD Pn Q) a w):(Code.region id ops b).wp P Q a w:=
 Code.wp_mono (λe a w h=>by cases e<;>first|exact h|exact hp _ _ _ h.1 h.2) h
theorem fH {Pn:List PanicEntry->World->Prop} {Q:Exit->Act->World->Prop} (d:Option Tmp) (v:Value):∀ c a w,PanD Pn Q (.panic c) (a.put d v) w->PanD Pn Q (.panic c) a w:=λ_ _ _ h=>⟨h.1,by cases d<;>exact h.2⟩
theorem zez (s:bA) (i:Nat) (l:List Nat) (k:Nat):(bC (s.link i l).kN k).length<=(bC s.kN k).length+l.length:=by
 show (bC (s.kN.modify i (nT l)) k).length<=_;unfold bC;rw[List.getElem?_modify];cases s.kN[k]? with
 | none=>simp
 | some x=>
  by_cases h:i=k
  . simp[h,nT]
  simp[h]
theorem uB (s:bA) (n:Nat) (b:Bool) (k:Nat):(bC (s.push ⟨[],n,b⟩).kN k).length<=(bC s.kN k).length:=by
 show (bC (s.kN++[⟨[],n,b⟩]) k).length<=_
 rcases zLg k s.kN.length with h|h
 . unfold bC;rw[zGl h];exact zR _
 unfold bC
 rw[zGr h]
 rcases Nat.eq_zero_or_pos (k-s.kN.length) with e|e
 . rw[e];simp
 rw[zGn (by simp;omega)];simp
theorem layN_cls (c:List (Int×Int)):LayN (.cL c):=by
 intro i s w tag bl bm Hc rU fO v hL Qz Hz Yj hT hi Hu Qo;simp only[aX] at hT;obtain⟨sl,rfl,yp,Eg⟩:=hT;obtain⟨so,sn,sc,rfl⟩:∃ so sn sc,sl=.slice so sn sc:=by
  rcases bD yp with⟨e,_⟩|⟨g,cap,e,_⟩
  . exact⟨_,_,_,e⟩
  exact⟨_,_,_,e⟩
 obtain⟨vs,vc,vf,vr,vb,qw,Qk,hK,hM⟩:=hL;rw[eD] at Hu;have kh:64<s.cL.length:=by
  by_cases kh:64<s.cL.length
  . exact kh
  rw[zN kh] at Hu;cases Hu
 have ZV:(64:Int)<(s.cL.length:Int):=by omega
 have Ex:=zbp (.slice so sn sc);have VG:=aB w bl 0 _ _ _ hM.hl;have KW:=aB w bm 0 _ _ _ hM.hm;simp only[zLa,zLb] at VG KW;obtain⟨gc,ka,rfl⟩:∃ g cap,vc=.slice (some ⟨g,0,none⟩) s.cL.length cap:=by
  rcases bD hM.rc with⟨_,h0⟩|⟨g,cap,e,_⟩
  . omega
  exact⟨g,cap,e⟩
 obtain⟨ai,Yh⟩:=zE (Hc.getD i 0);rw[<-Yh];clear Yh hK hM yp Eg Hu Qo Qz Hz kh;go_enter Tryz.func57,Tryz.ntmps57;go_wp2_with (fail);exact⟨rfl,rfl,tag,dL.refl _ _⟩
structure RowN (l:List aJ) (s:bA) (tag:Nat->Nat) (bl bm:Nat) (Hc:List Nat) (rU:List Int) (fO:List aW) (w:World) (k pk:Nat) (sk:bA) (qc:Nat->Nat) (ext:List Nat) (wr:World):Prop where
 lay:gZ wr qc bl bm (Hc++ext) sk (rU++List.replicate (sk.cL.length-s.cL.length) (-1)) fO
 lt:pk<sk.kN.length
 upd:dL tag qc w wr
 rest:mY (l.drop k) pk sk=none
 later:bL s sk
 deg:sk.cL.length<=65/\∀ j,(bC sk.kN j).length+qL (l.drop k) sk.cL.length<=1000000
theorem layN_row (l:List aJ) (ih:∀ t∈l,LayN t):LayN (.row l):=by
 intro i s w tag bl bm Hc rU fO v hL Qz Hz Yj hT hi Hu Qo;rw[eD] at Hu;simp only[aX] at hT;obtain⟨sl,vs,rfl,h2,h3,h4⟩:=hT;have IH:=zh ih;have H2:=zh h2;have H3:=zh h3;have H4:=zh h4;have HN:=zh (zAi Qz (zAi Hz Yj));have VR:RowN l s tag bl bm Hc rU fO w 0 i s tag [] w:=⟨by simpa using hL,hi,dL.refl _ _,by simpa using Hu,bL.refl _,Qo.1,λj=>by have:=Qo.2 j;rw[lS] at this;simpa using this⟩;have Hq:=zh VR;have yv:=bD h2
 have A9:(l.length:Int)<=9223372036854775807:=by
  have:l.length<=maxLen:=by rcases h2.2 with⟨_,h⟩|⟨_,_,_,_,_,_,h,h',_⟩<;>omega
  unfold maxLen at this;omega
 obtain⟨ai,Yh⟩:=zE (Hc.getD i 0);rw[<-Yh];have bq:=zh Yh;clear ih h2 h3 h4 hL Qz Hz Qo VR Yh;have KS:=λv=>sW v;have Uq:=λv=>zbr v
 rcases yv with⟨rfl,hn⟩|⟨g,cap,rfl,Xp,hg⟩
 . have QG:l=[]:=List.eq_nil_of_length_eq_zero hn
   subst QG;rw[mY] at Hu;cases Hu
 clear Hu
 go_enter Tryz.func57,Tryz.ntmps57;go_wp2_with (fail);go_loopw [2,99] (λs2 s99 wr=>∃ (k pk:Nat) (sk:bA) (qc:Nat->Nat) (ext:List Nat) (ak:Nat),s99=.int .i64 k/\k<=l.length/\s2=aK ak/\ak=(Hc++ext).getD pk 0/\RowN l s tag bl bm Hc rU fO w k pk sk qc ext wr) (λ_ s99 _=>l.length-(RowKit.intOf s99).toNat)
 case atStart=>exact⟨0,i,s,tag,[],ai,rfl,by omega,rfl,by rw[List.append_nil];exact bq.o,Hq.o⟩
 case round=>
  obtain⟨k,pk,sk,qc,ext,ak,rfl,hk,rfl,jc,hR⟩:=hrel;have HR:=zh hR;have JG:=zh jc;clear hR jc;by_cases Hf:k<l.length
  . have hz:(k:Int)<(l.length:Int):=by omega
    obtain⟨t,ht⟩:=zG l k Hf;obtain⟨u,hu,Cs⟩:=H4.o.get k t ht;have Q2:l.drop k=t::l.drop (k+1):=by rw[List.drop_eq_getElem_cons Hf];congr 1;rw[zLe Hf] at ht;exact zO ht
    have Ha:=HR.o.rest;have go:=HR.o.deg;rw[Q2,vH] at Ha;rw[Q2] at go;simp only[qL] at go;have U6:=aX.upd HR.o.upd Cs;have x8:wr.cell? ⟨g,k,none⟩=some u:=by
     have Hb:wr.ownsRow 0 138 1 (.slice (some ⟨g,0,none⟩) l.length cap) l.length vs:=aU H2.o λb hb=>HR.o.upd.keep b (H3.o b hb).2 (.inr (H3.o b hb).1);exact aE Hb _ _ hu
    obtain⟨x,rfl,_⟩:=iS t u _ wr U6;have Iz:=zh go;have Xe:(rU++List.replicate (sk.cL.length-s.cL.length) (-1:Int)).length=sk.cL.length/\sk.bE.length=sk.cL.length/\0<sk.cL.length:=by
     have:=HN.o;have:=HR.o.later;unfold bL at this;refine⟨by simp;omega,by omega,by omega⟩
    have BL:=zh Xe;cases hx:eD t pk sk with
    | none=>
     have Hh:=IH.o t (zM ht) pk sk wr qc bl bm (Hc++ext) (rU++List.replicate (sk.cL.length-s.cL.length) (-1)) fO _ HR.o.lay BL.o.1 BL.o.2.1 BL.o.2.2 U6 HR.o.lt hx ⟨Iz.o.1,λj=>by have:=Iz.o.2 j;omega⟩;rw[<-JG.o] at Hh;have qi:=zh Hh;clear hx Ha Cs U6 Q2 ht hu Hh go Xe;go_wp2_with (fail);refine qi.o.mono ?_;rintro e w2 ⟨rfl,Qd,CX⟩;exact⟨rfl,rfl,Qd,HR.o.upd.trans CX⟩
    | some qs=>
     obtain⟨q,s2⟩:=qs;rw[hx] at Ha;simp only at Ha;have XI:=zh Ha;have Pv:=fY _ _ _ _ _ hx;have QK:=zh Pv;obtain⟨_,_,ce⟩:=oT t pk sk q s2 HR.o.lt (by have:=BL.o.2.2;omega) hx;obtain⟨cl1,cl2,yo⟩:=zbT hx Iz.o.1;have jd:s2.cL.length<=65/\∀ j,(bC s2.kN j).length+qL (l.drop (k+1)) s2.cL.length<=1000000:=⟨by omega,λj=>by
      have h1:=ce.deg j;have h2:=Iz.o.2 j;rw[zP cl1,yo] at h2;rw[cl2];omega⟩
     have CC:=zh jd;have Hh:=(rO t) pk q sk s2 wr qc bl bm (Hc++ext) (rU++List.replicate (sk.cL.length-s.cL.length) (-1)) fO _ HR.o.lay BL.o.1 BL.o.2.1 BL.o.2.2 U6 HR.o.lt hx
      (λj=>by have:=CC.o.2 j;omega)
     rw[<-JG.o] at Hh;have qi:=zh Hh;clear hx Ha Cs U6 Q2 ht hu Pv Hh go Xe ce jd cl1 cl2 yo;go_wp2_with (fail);refine qi.o.mono ?_;rintro e w2 ⟨Qd,ext2,rfl,Ap,hq,CX⟩;have KH:=zh Ap;have tW:=zh CX;clear Ap CX;obtain⟨a2,Pg⟩:∃ y,y=(Hc++ext++ext2).getD q 0:=⟨_,rfl⟩;rw[<-Pg];have EB:=zh Pg;clear Pg;go_wp2_with (fail);go_roundw
     case rel=>
      refine⟨k+1,q,s2,Qd,ext++ext2,a2,by go_num,by omega,rfl,by rw[<-List.append_assoc];exact EB.o,?_,hq,HR.o.upd.trans tW.o,XI.o,HR.o.later.trans QK.o,CC.o⟩;have Yt:=KH.o;rw[zcn rU _ _ _ HR.o.later.2.1 QK.o.2.1] at Yt;rw[<-List.append_assoc];exact Yt
     case measure=>(simp[zI]<;>omega)
  have Y1:k=l.length:=by omega
  have hr:=HR.o.rest;rw[Y1,List.drop_length,mY] at hr;cases hr
theorem layN_rep (t:aJ) (m:Int) (o:Bool) (ih:LayN t):LayN (.rep t m o):=by
 intro i s w tag bl bm Hc rU fO v hL Qz Hz Yj hT hi Hu Qo;rw[eD] at Hu;simp only[aX] at hT;obtain⟨u,rfl,hu⟩:=hT;obtain⟨x,rfl,_⟩:=iS t u _ w hu;obtain⟨ai,Yh⟩:=zE (Hc.getD i 0);rw[<-Yh];have KS:=λv=>sU v;have Uq:=λv=>sV v;have PY:=λv=>pM v;have PZ:=λv=>zbq v;have N0:fF tag bl bm w s rU fO Hc tag w:=⟨hL,dL.refl _ _⟩;have Hg:=N0.len;have N1:=N0.alloc0 (.cells #[.iface (eP t) x,.int .i64 m,.bool o] 206)
 obtain⟨Qd,N2,Yv⟩:=N1.push2;obtain⟨xe,N3,VX⟩:=N2.push2;obtain⟨n,hn⟩:=zE (s.kN.length);obtain⟨st,Hl⟩:=zE (w.heap.size);obtain⟨S2,QD⟩:=zE ((s.push ⟨[],0,false⟩).push ⟨[],0,false⟩);obtain⟨qd,ql⟩:=zE (Hc++[(w.alloc (.cells #[.iface (eP t) x,.int .i64 m,.bool o] 206)).heap.size]++[((w.alloc (.cells #[.iface (eP t) x,.int .i64 m,.bool o] 206)).alloc (.cells #[.slice none 0 0,.int .i64 0,.bool false,.bool false] 143)).heap.size])
 obtain⟨w3,YG⟩:=zE (((w.alloc (.cells #[.iface (eP t) x,.int .i64 m,.bool o] 206)).alloc (.cells #[.slice none 0 0,.int .i64 0,.bool false,.bool false] 143)).alloc (.cells #[.slice none 0 0,.int .i64 0,.bool false,.bool false] 143));rw[<-ql,<-YG,<-QD] at N3;have M0:fF xe bl bm w3 S2 rU fO qd xe w3:=⟨N3.lay,dL.refl _ _⟩;have U3:=N3.upd;have Vw:S2.kN.length=n+2:=by rw[QD,hn];simp[bA.push]
 have P7:=M0.len;have sto:w3.heap[st]?=some (.cells #[.iface (eP t) x,.int .i64 m,.bool o] 206 (0,0)):=by
  rw[YG,Hl,aN,zN (by simp;omega),aN,zN (by simp),aN,zP rfl]
 have stt:xe st=0:=by
  rw[VX st (by simp[Hl];omega),Yv st (by simp[Hl]),Hl];simp[dB]
 have stl:st<w3.heap.size:=aA sto;have kA:st+1=qd.getD n 0:=by
  rw[ql,bF (by simp[Hg,hn]),hn,<-Hg,cG,Hl];simp
 have kB:st+1+1=qd.getD (n+1) 0:=by
  rw[ql,show n+1=(Hc++[(w.alloc (.cells #[.iface (eP t) x,.int .i64 m,.bool o] 206)).heap.size]).length by simp[Hg,hn],cG,Hl];simp
 have aI:ai=qd.getD i 0:=by
  rw[ql,bF (by simp[Hg];omega),bF (by rw[Hg];exact hi)];exact Yh
 rw[<-hn,<-QD] at Hu;obtain⟨S3,X2⟩:=zE (S2.link i [n]);have L3:=bL.link S2 i [n];rw[<-X2] at Hu L3;have hx:eD t n S3=none:=by
  cases hx:eD t n S3 with
  | none=>rfl
  | some pq=>rw[hx] at Hu;cases Hu
 have VW:∀ k,(bC S3.kN k).length+lS t s.cL.length<=999999/\(bC S2.kN k).length<=999999:=λk=>by
  have h1:=Qo.2 k;have h2:=zez S2 i [n] k;have h3:=zT (uB (s.push ⟨[],0,false⟩) 0 false k) (uB s 0 false k);rw[<-QD] at h3;rw[lS] at h1;rw[X2];simp only[List.length_cons,List.length_nil] at h2;omega
 have D0:=zh VW;have ja:=zh (aX.upd U3 hu);have tP:=zh M0;have Aj:=zh U3;have Hq:=zh (zAi sto (zAi stt stl));have J6:=zh aI;have yn:i<S2.kN.length:=by rw[Vw];omega
 have HL:=zh (zAi yn (zAi (show n<S2.kN.length by omega) (show n+1<S2.kN.length by omega)));have QK:=zh L3;have HS:=zh X2;have HX:=zh hx;have HB:=zh Qo;have HN:=zh (zAi Qz (zAi Hz Yj));have YJ:=zh (show S2.cL=s.cL/\S2.bE=s.bE by rw[QD];exact⟨rfl,rfl⟩);obtain⟨a1,xz⟩:∃ y,y=st+1:=⟨_,rfl⟩;obtain⟨b1,x5⟩:∃ y,y=st+1+1:=⟨_,rfl⟩;have tN:=zh (show a1=qd.getD n 0 by rw[xz,kA])
 have nw:=zh (show b1=qd.getD (n+1) 0 by rw[x5,kB]);have xk:=zh (zAi YG (zAi Hl (zAi xz x5)));clear YG Hl xz x5 kA kB M0 U3 sto stt stl aI Yh yn L3 X2 hx Qo Hu VW Qz Hz Yj N0 N1 N2 N3 Yv VX P7 hu QD Vw ql Hg hn hL;go_enter Tryz.func57,Tryz.ntmps57;go_upto_region 34 with (fail)
 rw[<-xk.o.1,<-xk.o.2.1,<-xk.o.2.2.1,<-show b1=a1+1 by rw[xk.o.2.2.2,xk.o.2.2.1]];clear KS Uq PY PZ;obtain⟨vi1,Q9,Y9⟩:=tP.o.ready i HL.o.1;rw[<-J6.o] at Q9 Y9;have c1:=Q9.cell;have p7:=zh Q9.row;have pg:=zh Q9.kept;have ph:=zh Y9;have VD:(bC S2.kN i).length+1<=1000000000:=(by have h0:=D0.o i;omega);clear Q9 Y9
 go_upto_region 35 with (at_builtin;refine dI rfl iQ rfl (by exact (p7.o.alloc _)) [aK a1] VD ?_;intro va1 wa1 Xb x9 VB;obtain⟨ga1,ca1,rfl⟩:=bV Xb;obtain⟨ka1,kb1,kc1⟩:=pg.o _ _ x9)
 obtain⟨J5,Q5⟩:=ph.o [n] (λj hj=>by rw[zMs] at hj;subst hj;exact HL.o.2.1) (.cells #[aK a1] 141) wa1 _ (by rw[show ([n].map λj=>aK (qd.getD j 0))=[aK a1] from congrArg (λz=>[aK z]) tN.o.symm];exact Xb) x9 VB;have QH:=zh Q5;clear Q5 Xb x9 VB ka1 kb1 kc1 c1 VD;generalize wa1.setCell ⟨ai,0,none⟩ (.slice (some ⟨ga1,0,none⟩) ((bC S2.kN i).length+1) ca1)=jo at QH ⊢;have Q5:=QH.o;rw[<-HS.o] at Q5;have qx:=(Q5.upd.keep st Hq.o.2.2 (.inl Hq.o.2.1)).trans Hq.o.1
 have d0:jo.cell? ⟨st,0,none⟩=some (.iface (eP t) x):=by have h0:=aB _ _ 0 _ _ _ qx;simpa using h0
 have Hh:=ih n S3 jo J5 bl bm qd rU fO _ Q5.lay (by have h:=QK.o;unfold bL at h;have:=HN.o;have:=YJ.o;rw[HS.o];simp only[bA.link];rw[this.1];omega)
  (by have:=HN.o;have:=YJ.o;rw[HS.o];simp only[bA.link];rw[this.1,this.2];omega) (by have:=HN.o;have:=YJ.o;rw[HS.o];simp only[bA.link];rw[this.1];omega)
  (aX.upd Q5.upd ja.o) (by have h:=QK.o;have:=HL.o;unfold bL at h;omega) HX.o
  (by
   have hc:S3.cL=s.cL:=(by rw[HS.o];exact YJ.o.1);rw[hc];exact⟨HB.o.1,λk=>by have:=D0.o k;omega⟩)
 rw[<-tN.o] at Hh;have qi:=zh Hh;have Bn:=zh Q5;clear Hh Q5 qx;go_wp2_with (fail);refine qi.o.mono ?_;rintro e w5 ⟨rfl,QQ,Vy⟩;exact⟨rfl,rfl,QQ,(Aj.o.trans Bn.o.upd).trans Vy⟩
theorem zdX (ta tb:aJ) (VZ:LayN ta) (ihb:LayN tb):LayN (.either ta tb):=by
 intro i s w tag bl bm Hc rU fO v hL Qz Hz Yj hT hi Hu Qo;rw[eD] at Hu;simp only[aX] at hT;obtain⟨ua,ub,rfl,DJ,tC⟩:=hT;obtain⟨xa,rfl,_⟩:=iS ta ua _ w DJ;obtain⟨xb,rfl,_⟩:=iS tb ub _ w tC;obtain⟨ai,Yh⟩:=zE (Hc.getD i 0);rw[<-Yh];have KS:=λv=>xD v;have Uq:=λv=>xE v;have PY:=λv=>xF v;have N0:fF tag bl bm w s rU fO Hc tag w:=⟨hL,dL.refl _ _⟩;have Hg:=N0.len;have N1:=N0.alloc0 (.cells #[.iface (eP ta) xa,.iface (eP tb) xb] 204)
 obtain⟨Qd,N2,Yv⟩:=N1.push2;obtain⟨xe,N3,VX⟩:=N2.push2;obtain⟨YH,N4,N6⟩:=N3.push2;obtain⟨n,hn⟩:=zE (s.kN.length);obtain⟨st,Hl⟩:=zE (w.heap.size);obtain⟨S2,QD⟩:=zE (((s.push ⟨[],0,false⟩).push ⟨[],0,false⟩).push ⟨[],0,false⟩)
 obtain⟨qd,ql⟩:=zE (Hc++[(w.alloc (.cells #[.iface (eP ta) xa,.iface (eP tb) xb] 204)).heap.size]++[((w.alloc (.cells #[.iface (eP ta) xa,.iface (eP tb) xb] 204)).alloc (.cells #[.slice none 0 0,.int .i64 0,.bool false,.bool false] 143)).heap.size]++[(((w.alloc (.cells #[.iface (eP ta) xa,.iface (eP tb) xb] 204)).alloc (.cells #[.slice none 0 0,.int .i64 0,.bool false,.bool false] 143)).alloc (.cells #[.slice none 0 0,.int .i64 0,.bool false,.bool false] 143)).heap.size])
 obtain⟨w3,YG⟩:=zE ((((w.alloc (.cells #[.iface (eP ta) xa,.iface (eP tb) xb] 204)).alloc (.cells #[.slice none 0 0,.int .i64 0,.bool false,.bool false] 143)).alloc (.cells #[.slice none 0 0,.int .i64 0,.bool false,.bool false] 143)).alloc (.cells #[.slice none 0 0,.int .i64 0,.bool false,.bool false] 143));rw[<-ql,<-YG,<-QD] at N4;have M0:fF YH bl bm w3 S2 rU fO qd YH w3:=⟨N4.lay,dL.refl _ _⟩;have U3:=N4.upd;have Vw:S2.kN.length=n+3:=by rw[QD,hn];simp[bA.push]
 have P7:=M0.len;have sto:w3.heap[st]?=some (.cells #[.iface (eP ta) xa,.iface (eP tb) xb] 204 (0,0)):=by
  rw[YG,Hl,aN,zN (by simp;omega),aN,zN (by simp;omega),aN,zN (by simp),aN,zP rfl]
 have stt:YH st=0:=by
  rw[N6 st (by simp[Hl];omega),VX st (by simp[Hl];omega),Yv st (by simp[Hl]),Hl];simp[dB]
 have stl:st<w3.heap.size:=aA sto;have kA:st+1=qd.getD n 0:=by
  rw[ql,bF (by simp[Hg,hn]),bF (by simp[Hg,hn]),hn,<-Hg,cG,Hl];simp
 have kB:st+1+1=qd.getD (n+1) 0:=by
  rw[ql,bF (by simp[Hg,hn]),show n+1=(Hc++[(w.alloc (.cells #[.iface (eP ta) xa,.iface (eP tb) xb] 204)).heap.size]).length by simp[Hg,hn],cG,Hl];simp
 have kC:st+1+1+1=qd.getD (n+2) 0:=by
  rw[ql,show n+2=(Hc++[(w.alloc (.cells #[.iface (eP ta) xa,.iface (eP tb) xb] 204)).heap.size]++[((w.alloc (.cells #[.iface (eP ta) xa,.iface (eP tb) xb] 204)).alloc (.cells #[.slice none 0 0,.int .i64 0,.bool false,.bool false] 143)).heap.size]).length by simp[Hg,hn],cG,Hl];simp
 have aI:ai=qd.getD i 0:=by
  rw[ql,bF (by simp[Hg];omega),bF (by simp[Hg];omega),bF (by rw[Hg];exact hi)];exact Yh
 rw[<-hn,<-QD] at Hu;obtain⟨S3,X2⟩:=zE (S2.link i [n,n+1]);have L3:=bL.link S2 i [n,n+1];rw[<-X2] at Hu L3;have VW:∀ k,(bC S3.kN k).length+(lS ta s.cL.length+if s.cL.length+eU ta<=65 then lS tb (s.cL.length+eU ta) else 0)<=1000000/\(bC S2.kN k).length<=999998:=λk=>by
  have h1:=Qo.2 k;have h2:=zez S2 i [n,n+1] k;have h3:=zT (uB ((s.push ⟨[],0,false⟩).push ⟨[],0,false⟩) 0 false k) (zT (uB (s.push ⟨[],0,false⟩) 0 false k) (uB s 0 false k));rw[<-QD] at h3;rw[lS] at h1;rw[X2];simp only[List.length_cons,List.length_nil] at h2;omega
 have D0:=zh VW;have BH:=zh (aX.upd U3 DJ);have my:=zh (aX.upd U3 tC);have tP:=zh M0;have Aj:=zh U3;have Hq:=zh (zAi sto (zAi stt stl));have J6:=zh aI;have yn:i<S2.kN.length:=by rw[Vw];omega
 have HL:=zh (zAi yn (zAi (show n<S2.kN.length by omega) (zAi (show n+1<S2.kN.length by omega) (show n+2<S2.kN.length by omega))));have QK:=zh L3;have HS:=zh X2;have us:=zh Hu;have HB:=zh Qo.1;have HN:=zh (zAi Qz (zAi Hz Yj));have YJ:=zh (show S2.cL=s.cL/\S2.bE=s.bE by rw[QD];exact⟨rfl,rfl⟩);obtain⟨a1,xz⟩:∃ y,y=st+1:=⟨_,rfl⟩;obtain⟨b1,x5⟩:∃ y,y=st+1+1:=⟨_,rfl⟩;obtain⟨d1,Te⟩:∃ y,y=st+1+1+1:=⟨_,rfl⟩
 have tN:=zh (show a1=qd.getD n 0 by rw[xz,kA]);have nw:=zh (show b1=qd.getD (n+1) 0 by rw[x5,kB]);have xk:=zh (zAi YG (zAi Hl (zAi xz (zAi x5 Te))));clear YG Hl xz x5 Te kA kB kC M0 U3 sto stt stl aI Yh yn L3 X2 Qo Hu VW Qz Hz Yj N0 N1 N2 N3 N4 Yv VX N6 P7 DJ tC QD Vw ql Hg hn hL;go_enter Tryz.func57,Tryz.ntmps57;go_upto_region 24 with (fail)
 rw[<-xk.o.1,<-xk.o.2.1,<-xk.o.2.2.1,<-show b1=a1+1 by rw[xk.o.2.2.2.1,xk.o.2.2.1],<-show d1=b1+1 by rw[xk.o.2.2.2.2,xk.o.2.2.2.1]];clear KS Uq PY;obtain⟨vi1,Q9,Y9⟩:=tP.o.ready i HL.o.1;rw[<-J6.o] at Q9 Y9;have c1:=Q9.cell;have p7:=zh Q9.row;have pg:=zh Q9.kept;have ph:=zh Y9;have VD:(bC S2.kN i).length+2<=1000000000:=(by have h0:=D0.o i;omega);clear Q9 Y9
 go_upto_region 25 with (at_builtin;refine bK _ rfl _ _ rfl iQ _ _ _ rfl (by exact (p7.o.alloc _)) ⟨_,0,none⟩ 2 2 [aK a1,aK b1] rfl rfl (cM _ #[aK a1,aK b1] _ _ (by simp)) (by simp[Value.oneCell']) (by decide) VD (by decide) ?_;intro va1 wa1 Xb x9 VB;obtain⟨ga1,ca1,rfl⟩:=bV Xb;obtain⟨ka1,kb1,kc1⟩:=pg.o _ _ x9)
 obtain⟨J5,Q5⟩:=ph.o [n,n+1] (λj hj=>by simp only[List.mem_cons,List.not_mem_nil,or_false] at hj;have:=HL.o;omega) (.cells #[aK a1,aK b1] 141) wa1 _ (by rw[show ([n,n+1].map λj=>aK (qd.getD j 0))=[aK a1,aK b1] from by rw[tN.o,nw.o];rfl];exact Xb) x9 VB;have QH:=zh Q5;clear Q5 Xb x9 VB ka1 kb1 kc1 c1 VD;generalize wa1.setCell ⟨ai,0,none⟩ (.slice (some ⟨ga1,0,none⟩) ((bC S2.kN i).length+1+1) ca1)=jo at QH ⊢;have Q5:=QH.o.drew;rw[<-HS.o] at Q5
 have qx:=(Q5.upd.keep st Hq.o.2.2 (.inl Hq.o.2.1)).trans Hq.o.1;have d0:jo.cell? ⟨st,0,none⟩=some (.iface (eP ta) xa):=by have h0:=aB _ _ 0 _ _ _ qx;simpa using h0
 have d1':jo.cell? ⟨st,1,none⟩=some (.iface (eP tb) xb):=by have h0:=aB _ _ 1 _ _ _ qx;simpa using h0
 have QG:=tP.o.len;have jq:=zh (show S3.cL.length=s.cL.length/\S3.bE.length=s.bE.length by rw[HS.o];exact⟨congrArg List.length YJ.o.1,congrArg List.length YJ.o.2⟩);have Cv:rU.length=S3.cL.length/\S3.bE.length=S3.cL.length/\0<S3.cL.length/\n<S3.kN.length/\n+1<S3.kN.length:=by have h:=QK.o;have:=HL.o;unfold bL at h;have:=HN.o;have:=jq.o;refine⟨?_,?_,?_,?_,?_⟩<;>omega
 have HW:=zh Cv;have Tq:∀ (w5:World) (QQ:Nat->Nat),dL J5 QQ jo.drew w5->w5.cell? ⟨st,0,none⟩=some (.iface (eP ta) xa)/\w5.cell? ⟨st,1,none⟩=some (.iface (eP tb) xb)/\st<w5.heap.size:=by
  intro w5 QQ Vy;have h:=((Q5.upd.trans Vy).keep st Hq.o.2.2 (.inl Hq.o.2.1)).trans Hq.o.1;have h0:=aB _ _ 0 _ _ _ h;have h1:=aB _ _ 1 _ _ _ h;exact⟨by simpa using h0,by simpa using h1,aA h⟩
 have Ui:=zh Tq;have V1:=zh Q5;cases hx:eD ta n S3 with
 | none=>
  have Hh:=VZ n S3 jo.drew J5 bl bm qd rU fO _ Q5.lay HW.o.1 HW.o.2.1 HW.o.2.2.1 (aX.upd Q5.upd BH.o) HW.o.2.2.2.1 hx (by rw[jq.o.1];exact⟨HB.o,λk=>by have:=D0.o k;omega⟩);rw[<-tN.o] at Hh;have qi:=zh Hh;clear Q5 qx Hh Tq QG Cv hx;refine uX (λc w'=>c=[{v:=.iface 51 (.int .i64 6),recovered:=false}]/\∃ Hd,dL tag Hd w w') (λc a w h1 h2=> ?_) ?_
  . obtain⟨rfl,h3⟩:=h1
    exact⟨h2,rfl,h3⟩
  refine wp_region_held_drew (S:=λw'=>w'.cell? ⟨st,0,none⟩=some (.iface (eP ta) xa)/\w'.cell? ⟨st,1,none⟩=some (.iface (eP tb) xb)) (by kernel_rfl) (by exact⟨d0,d1'⟩) (λHe=> ?_);refine cQ 0 He ?_ (hQ:=fH _ _);refine cQ 1 He ?_ (hQ:=fH _ _);refine cQ 2 He ?_ (hQ:=fH _ _);refine cQ 3 He ?_ (hQ:=fH _ _);refine cQ 5 He ?_ (hQ:=fH _ _);refine cQ 6 He ?_ (hQ:=fH _ _);refine cQ 7 He ?_ (hQ:=fH _ _);refine cQ 8 He ?_ (hQ:=fH _ _);refine cQ 12 He ?_ (hQ:=fH _ _);refine rK 4 (λK hK=> ?_);go_simp;go_at_call 57;refine qi.o.mono ?_;rintro e w5 ⟨rfl,QQ,Vy⟩;exact⟨⟨rfl,QQ,(Aj.o.trans V1.o.upd).trans Vy⟩,rfl⟩
 | some pq=>
  obtain⟨p1,S4⟩:=pq;have hy:eD tb (n+1) S4=none:=by
   have Hu:=us.o;rw[hx] at Hu;simp only at Hu;cases hy:eD tb (n+1) S4 with
   | none=>rfl
   | some pq=>rw[hy] at Hu;cases Hu
  have Wo:=zh (fY _ _ _ _ _ hx);obtain⟨_,_,ce⟩:=oT ta n S3 p1 S4 HW.o.2.2.2.1 (by have:=HW.o.2.2.1;omega) hx;obtain⟨cl1,cl2,yo⟩:=zbT hx (by rw[jq.o.1];exact HB.o);rw[jq.o.1] at cl1 cl2 yo;have Eh:S4.cL.length<=65/\∀ k,(bC S4.kN k).length+lS tb S4.cL.length<=1000000:=⟨by omega,λk=>by
   have h1:=ce.deg k;have h2:=(D0.o k).1;rw[zP cl1,yo] at h2;rw[cl2];omega⟩
  have Hh:=(rO ta) n p1 S3 S4 jo.drew J5 bl bm qd rU fO _ Q5.lay HW.o.1 HW.o.2.1 HW.o.2.2.1 (aX.upd Q5.upd BH.o) HW.o.2.2.2.1 hx (λk=>by have:=Eh.2 k;omega);rw[<-tN.o] at Hh;have VF:∀ (w5:World) (QQ:Nat->Nat) (YT:List Nat),gZ w5 QQ bl bm (qd++YT) S4 (rU++List.replicate (S4.cL.length-S3.cL.length) (-1)) fO->dL J5 QQ jo.drew w5->
   Calls Tryz.prog 57 #[.pointer (some ⟨bm,0,none⟩),.iface (eP tb) xb,aK b1] w5 (LayX QQ w5):=by
   intro w5 QQ YT Ta Vy;have h:=Wo.o;unfold bL at h;have h2:=HW.o;have h3:=ihb (n+1) S4 w5 QQ bl bm (qd++YT) (rU++List.replicate (S4.cL.length-S3.cL.length) (-1)) fO _ Ta
    (by simp only[zLn,List.length_replicate];omega) (by omega) (by omega) (aX.upd (Q5.upd.trans Vy) my.o) (by omega) hy Eh
   rw[bF (by rw[QG];exact HL.o.2.2.1),<-nw.o] at h3;exact h3
  have qi:=zh Hh;have XF:=zh VF;clear Q5 qx Hh VF Tq QG Cv hx hy ce Eh cl1 cl2 yo;refine uX (λc w'=>c=[{v:=.iface 51 (.int .i64 6),recovered:=false}]/\∃ Hd,dL tag Hd w w') (λc a w h1 h2=> ?_) ?_
  . obtain⟨rfl,h3⟩:=h1
    exact⟨h2,rfl,h3⟩
  refine wp_region_held_drew (S:=λw'=>w'.cell? ⟨st,0,none⟩=some (.iface (eP ta) xa)/\w'.cell? ⟨st,1,none⟩=some (.iface (eP tb) xb)) (by kernel_rfl) (by exact⟨d0,d1'⟩) (λHe=> ?_);refine cQ 0 He ?_ (hQ:=fH _ _);refine cQ 1 He ?_ (hQ:=fH _ _);refine cQ 2 He ?_ (hQ:=fH _ _);refine cQ 3 He ?_ (hQ:=fH _ _);refine cQ 5 He ?_ (hQ:=fH _ _);refine cQ 6 He ?_ (hQ:=fH _ _);refine cQ 7 He ?_ (hQ:=fH _ _);refine cQ 8 He ?_ (hQ:=fH _ _);refine cQ 12 He ?_ (hQ:=fH _ _);refine rK 4 (λK hK=> ?_);go_simp;go_at_call 57;refine qi.o.mono ?_;rintro e w5 ⟨QQ,YT,rfl,Ta,TL,Vy⟩;have VV:=zh Ta;have tX:=zh Vy;clear Ta Vy;obtain⟨z0,z1,z2⟩:=Ui.o _ _ tX.o;refine hK.out _ _ ⟨z0,z1⟩ (λQ6=> ?_);clear hK K He;have He:=Q6;clear Q6;(try simp only[Act.put,lA,lB,lC]);refine rK 9 (λK hK=> ?_);go_simp;go_at_call 57;refine (XF.o _ _ _ VV.o tX.o).mono ?_;rintro e w6 ⟨rfl,YY,CY⟩
  exact⟨⟨rfl,YY,((Aj.o.trans V1.o.upd).trans tX.o).trans CY⟩,rfl⟩
theorem uH:∀ t:aJ,LayN t
 | .cL c=>layN_cls c
 | .row l=>layN_row l (λt _=>uH t)
 | .either a b=>zdX a b (uH a) (uH b)
 | .rep t m o=>layN_rep t m o (uH t)
