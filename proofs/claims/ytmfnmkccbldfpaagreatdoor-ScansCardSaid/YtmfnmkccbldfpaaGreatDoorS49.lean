/- Part of a proof. No condition. -/
import Derived.Test.YtmfnmkccbldfpaaGreatDoorS38
import Derived.Test.YtmfnmkccbldfpaaGreatDoorS21
set_option linter.unusedVariables false
set_option linter.unusedSimpArgs false
set_option maxRecDepth 100000
set_option maxHeartbeats 4000000
namespace Go.Proofs.YtmfnmkccbldfpaaGreatDoor
open Go.RowKit Go.Lib Tryz
theorem zzDP {p:Prop} (h:p:=by have:=HN.o;have:=YY.o;rw[HS.o];grind [bC.link]):p:=h
theorem zzCg {p:Prop} (h:p:=by
 rw[<-Q7] at h3;rw[pG] at h1;rw[Xh];simp only[List.length_cons,List.length_nil] at h2;omega):p:=h
theorem zzA0 {p q:Prop} (k:q) (h:q->p:=by intro zz;refine cY 0 Hc ?_ (hQ:=gQ _ _);refine cY 1 Hc ?_ (hQ:=gQ _ _);refine cY 2 Hc ?_ (hQ:=gQ _ _);refine cY 3 Hc ?_ (hQ:=gQ _ _);refine cY 5 Hc ?_ (hQ:=gQ _ _);refine cY 6 Hc ?_ (hQ:=gQ _ _);refine cY 7 Hc ?_ (hQ:=gQ _ _);refine cY 8 Hc ?_ (hQ:=gQ _ _);refine cY 12 Hc ?_ (hQ:=gQ _ _);exact zz):p:=h k
abbrev tooMany:Ending:=.panicked [{v:=Δ 86 (ι 6),recovered:=false}]
def LayX (tag:Nat->Nat) (w:ω) (e:Ending) (w':ω):Prop:=e=tooMany/\∃ He,eA tag He w w'
def LayN (t:aL):Prop:=∀ (i:Nat) (s:bC) (w:ω) (tag:Nat->Nat) (bl bm:Nat) (Hd:ο) (rU:List Int) (fO:List aZ) (v:Value),
 jC w tag bl bm Hd s rU fO->I rU=I s.cL->I s.bE=I s.cL->0<I s.cL->aW (λg=>tag g=7/\g<w.t) w t v->i<I s.kN->fE t i s=none->(I s.cL<=65/\∀ k,I (bD s.kN k)+pG t (I s.cL)<=1000000)->
 Γ 63 #[π bm,v,aF (χ Hd i 0)] w (LayX tag w)
def PanD (Pn:List PanicEntry->World->Prop) (Q:Exit->Act->World->Prop):Exit->Act->World->Prop
 | .panic c,a,w=>Pn c w/\a.defers=[]
 | e,a,w=>Q e a w
theorem zai {P:Program} {id:Nat} {ops:Array Oper} {b:Bool} {Q:Exit->Act->World->Prop} {a:Act} {w:ω} (Pn:List PanicEntry->World->Prop) (hp:∀ c a w,Pn c w->a.defers=[]->Q (.panic c) a w) (h:(Code.region id ops b).wp P (PanD Pn Q) a w):(Code.region id ops b).wp P Q a w:=
 Code.wp_mono (λe a w h=>by cases e<;>first|exact h|exact hp _ _ _ h.1 h.2) h
theorem gQ {Pn:List PanicEntry->World->Prop} {Q:Exit->Act->World->Prop} (d:Option Tmp) (v:Value):∀ c a w,PanD Pn Q (.panic c) (a.put d v) w->PanD Pn Q (.panic c) a w:=λ_ _ _ h=>⟨h.1,by cases d<;>exact h.2⟩
theorem zho (s:bC) (i:Nat) (l:ο) (k:Nat):I (bD (s.link i l).kN k)<=I (bD s.kN k)+I l:=by
 show I (bD (s.kN.modify i (qO l)) k)<=_
 grind [bD,qO]
theorem zaG (s:bC) (n:Nat) (b:Bool) (k:Nat):I (bD (s.push ⟨[],n,b⟩).kN k)<=I (bD s.kN k):=by
 show I (bD (s.kN++[⟨[],n,b⟩]) k)<=_
 grind [bD]
theorem layN_cls (c:θ):LayN (.cL c):=by
 intro i s w tag bl bm Hd rU fO v hL Qh qh Yn hT hi qf QW;simp only[aW] at hT;obtain⟨sl,rfl,ym,IU⟩:=hT;obtain⟨so,sn,sc,rfl⟩:∃ so sn sc,sl=τ so sn sc:=by
  rcases aY ym with⟨e,_⟩|⟨g,cap,e,_⟩
  all_goals grind
 obtain⟨vs,vc,vf,vr,vb,Ql,QN,hK,hM⟩:=hL;rw[fE] at qf;have Jv:64<I s.cL:=by
  by_cases Jv:64<I s.cL
  . exact Jv
  grind
 have:(64:Int)<(I s.cL:Int):=zo
 have:=zdl (τ so sn sc);have KS:=bF w bl 0 _ _ _ hM.hl;have J9:=bF w bm 0 _ _ _ hM.hm;simp only[zLa,zLb] at KS J9;obtain⟨gc,Jc,rfl⟩:∃ g cap,vc=σ g (I s.cL) cap:=by
  rcases aY hM.rc with⟨_,h0⟩|⟨g,cap,e,_⟩
  all_goals grind
 obtain⟨ai,xf⟩:=zE (χ Hd i 0);rw[<-xf];clear xf hK hM ym IU qf QW Qh qh Jv;go_in;go_wp2;exact⟨rfl,rfl,tag,eA.refl _ _⟩
structure RowN (l:List aL) (s:bC) (tag:Nat->Nat) (bl bm:Nat) (Hd:ο) (rU:List Int) (fO:List aZ) (w:ω) (k pk:Nat) (sk:bC) (qj:Nat->Nat) (ext:ο) (wr:ω):Prop where
 lay:jC wr qj bl bm (Hd++ext) sk (rU++ψ (I sk.cL-I s.cL) (-1)) fO
 lt:pk<I sk.kN
 upd:eA tag qj w wr
 rest:qL (l.drop k) pk sk=none
 later:bW s sk
 deg:I sk.cL<=65/\∀ j,I (bD sk.kN j)+yT (l.drop k) (I sk.cL)<=1000000
theorem layN_row (l:List aL) (ih:∀ t∈l,LayN t):LayN (.row l):=by
 intro i s w tag bl bm Hd rU fO v hL Qh qh Yn hT hi qf QW;rw[fE] at qf;simp only[aW] at hT;obtain⟨sl,vs,rfl,h2,h3,h4⟩:=hT;have IH:=zh ih;have H2:=zh h2;have H3:=zh h3;have H4:=zh h4;have HN:=Λ Qh qh Yn;have jh:RowN l s tag bl bm Hd rU fO w 0 i s tag [] w:=⟨zg,hi,eA.refl _ _,zg,bW.refl _,QW.1,λj=>by grind [pG]⟩;have Hl:=zh jh;have yn:=aY h2;have ni:(I l:Int)<=9223372036854775807:=by
  exact zzBB
 obtain⟨ai,xf⟩:=zE (χ Hd i 0);rw[<-xf];have Fd:=zh xf;clear ih h2 h3 h4 hL Qh qh QW jh xf;have Ap:=λv=>zad v;have CN:=λv=>zdn v
 rcases yn with⟨rfl,hn⟩|⟨g,cap,rfl,Xi,hg⟩
 . have QZ:l=[]:=List.eq_nil_of_length_eq_zero hn
   subst QZ;rw[qL] at qf;cases qf
 clear qf
 go_in;go_wp2_with fail;go_loopw [2,99] (λs2 s99 wr=>∃ (k pk:Nat) (sk:bC) (qj:Nat->Nat) (ext:ο) (ak:Nat),s99=ι k/\k<=I l/\s2=aF ak/\ak=χ (Hd++ext) pk 0/\RowN l s tag bl bm Hd rU fO w k pk sk qj ext wr) (λ_ s99 _=>I l-(ϑ s99).toNat)
 case atStart=>exact⟨0,i,s,tag,[],ai,rfl,zo,rfl,by rw[List.append_nil];exact Fd.o,Hl.o⟩
 case round=>
  obtain⟨k,pk,sk,qj,ext,ak,rfl,hk,rfl,Pd,hR⟩:=hrel;have HR:=zh hR;have tG:=zh Pd;clear hR Pd;by_cases Hf:k<I l
  . have hz:=zt k (I l)
    obtain⟨t,ht⟩:=zG l k Hf;obtain⟨u,hu,DS⟩:=H4.o.get k t ht;have Yh:l.drop k=t::l.drop (k+1):=by rw[List.drop_eq_getElem_cons Hf];congr 1;rw[zLe Hf] at ht;exact zO ht
    have Ha:=HR.o.rest;have M6:=HR.o.deg;rw[Yh,zaP] at Ha;rw[Yh] at M6;simp only[yT] at M6;have DT:=aW.upd HR.o.upd DS;have kx:wr.v g k u:=by
     have Hb:wr.r 165 1 (σ g (I l) cap) (I l) vs:=aU H2.o λb hb=>HR.o.upd.keep b (H3.o b hb).2 (.inr (H3.o b hb).1);exact aJ Hb _ _ hu
    obtain⟨x,rfl,_⟩:=kE t u _ wr DT;have D0:=zh M6;have yw:I (rU++ψ (I sk.cL-I s.cL) (-1:Int))=I sk.cL/\I sk.bE=I sk.cL/\0<I sk.cL:=by
     have:=HN.o;have:=HR.o.later;unfold bW at this;refine⟨zg,zo,zo⟩
    have di:=zh yw;cases hx:fE t pk sk with
    | none=>
     have Hj:=IH.o t (zM ht) pk sk wr qj bl bm (Hd++ext) (rU++ψ (I sk.cL-I s.cL) (-1)) fO _ HR.o.lay di.o.1 di.o.2.1 di.o.2.2 DT HR.o.lt hx ⟨D0.o.1,λj=>zg⟩;rw[<-tG.o] at Hj;have qw:=zh Hj;clear hx Ha DS DT Yh ht hu Hj M6 yw;go_wp2_with fail;refine qw.o.mono ?_;rintro e w2 ⟨rfl,Qz,Bj⟩;exact⟨rfl,rfl,Qz,HR.o.upd.trans Bj⟩
    | some qs=>
     obtain⟨q,s2⟩:=qs;rw[hx] at Ha;simp only at Ha;have xe:=zh Ha;have kz:=iD _ _ _ _ _ hx;have yk:=zh kz;obtain⟨_,_,Nb⟩:=sH t pk sk q s2 HR.o.lt zo hx;obtain⟨cl1,cl2,YU⟩:=zd0 hx D0.o.1;have tX:I s2.cL<=65/\∀ j,I (bD s2.kN j)+yT (l.drop (k+1)) (I s2.cL)<=1000000:=⟨zo,λj=>by
      have h1:=Nb.deg j
      grind⟩
     have BQ:=zh tX;have Hj:=(xW t) pk q sk s2 wr qj bl bm (Hd++ext) (rU++ψ (I sk.cL-I s.cL) (-1)) fO _ HR.o.lay di.o.1 di.o.2.1 di.o.2.2 DT HR.o.lt hx
      (λj=>zg)
     rw[<-tG.o] at Hj;have qw:=zh Hj;clear hx Ha DS DT Yh ht hu kz Hj M6 yw Nb tX cl1 cl2 YU;go_wp2_with fail;refine qw.o.mono ?_;rintro e w2 ⟨Qz,ext2,rfl,Ux,hq,Bj⟩;have jz:=zh Ux;have A3:=zh Bj;clear Ux Bj;obtain⟨a2,TL⟩:∃ y,y=χ (Hd++ext++ext2) q 0:=⟨_,rfl⟩;rw[<-TL];have NY:=zh TL;clear TL;go_wp2;go_roundw
     case rel=>
      refine⟨k+1,q,s2,Qz,ext++ext2,a2,by go_num,zo,rfl,by rw[<-List.append_assoc];exact NY.o,?_,hq,HR.o.upd.trans A3.o,xe.o,HR.o.later.trans yk.o,BQ.o⟩;have Q9:=jz.o;rw[zeG rU _ _ _ HR.o.later.2.1 yk.o.2.1] at Q9;rw[<-List.append_assoc];exact Q9
     case measure=>exact zY
  have XR:k=I l:=zo
  have hr:=HR.o.rest;rw[XR,List.drop_length,qL] at hr;cases hr
theorem layN_rep (t:aL) (m:Int) (o:Bool) (ih:LayN t):LayN (.rep t m o):=by
 intro i s w tag bl bm Hd rU fO v hL Qh qh Yn hT hi qf QW;rw[fE] at qf;simp only[aW] at hT;obtain⟨u,rfl,hu⟩:=hT;obtain⟨x,rfl,_⟩:=kE t u _ w hu;obtain⟨ai,xf⟩:=zE (χ Hd i 0);rw[<-xf];have Ap:=λv=>zab v;have CN:=λv=>zac v;have Bl:=λv=>sZ v;have TN:=λv=>zdm v;have N0:iA tag bl bm w s rU fO Hd tag w:=⟨hL,eA.refl _ _⟩;have Ho:=N0.len;have N1:=N0.alloc0 (Ω #[Δ (fU t) x,ι m,φ o] 246)
 obtain⟨Qz,N2,Xy⟩:=N1.push2;obtain⟨XK,N3,Vu⟩:=N2.push2;obtain⟨n,hn⟩:=zE (I s.kN);obtain⟨st,Hh⟩:=zE (w.heap.size);obtain⟨S2,Q7⟩:=zE ((s.push ⟨[],0,false⟩).push ⟨[],0,false⟩);obtain⟨qi,Qb⟩:=zE (Hd++[(κ w (Ω #[Δ (fU t) x,ι m,φ o] 246)).heap.size]++[(κ (κ w (Ω #[Δ (fU t) x,ι m,φ o] 246)) (Ω #[ν,ι 0,φ false,φ false] 172)).heap.size])
 obtain⟨w3,yj⟩:=zE (κ (κ (κ w (Ω #[Δ (fU t) x,ι m,φ o] 246)) (Ω #[ν,ι 0,φ false,φ false] 172)) (Ω #[ν,ι 0,φ false,φ false] 172));rw[<-Qb,<-yj,<-Q7] at N3;have M0:iA XK bl bm w3 S2 rU fO qi XK w3:=⟨N3.lay,eA.refl _ _⟩;have U3:=N3.upd;have KG:I S2.kN=n+2:=by rw[Q7,hn];simp[bC.push]
 have CS:=M0.len;have sto:w3.h st #[Δ (fU t) x,ι m,φ o] 246:=by
  rw[yj,Hh,aV,zN zx,aV,zN zs,aV,zP rfl]
 have stt:XK st=0:=by
  rw[Vu st zzCb,Xy st (by simp[Hh]),Hh];simp[dI]
 have stl:st<w3.t:=aA sto;have kA:st+1=χ qi n 0:=by
  rw[Qb,bK zg,hn,<-Ho,cV,Hh];simp
 have kB:st+1+1=χ qi (n+1) 0:=by
  exact zzB4
 have aI:ai=χ qi i 0:=by
  rw[Qb,bK zg,bK zo];exact xf
 rw[<-hn,<-Q7] at qf;obtain⟨S3,Xh⟩:=zE (S2.link i [n]);have L3:=bW.link S2 i [n];rw[<-Xh] at qf L3;have hx:fE t n S3=none:=by
  cases hx:fE t n S3 with
  | none=>rfl
  | some pq=>grind
 have Pe:∀ k,I (bD S3.kN k)+pG t (I s.cL)<=999999/\I (bD S2.kN k)<=999999:=λk=>by
  have h1:=QW.2 k;have h2:=zho S2 i [n] k;have h3:=zT (zaG (s.push ⟨[],0,false⟩) 0 false k) (zaG s 0 false k);exact zzCg
 have Iz:=zh Pe;have PF:=zh (aW.upd U3 hu);have AV:=zh M0;have Ur:=zh U3;have Hl:=Λ sto stt stl;have Tg:=zh aI;have Yj:i<I S2.kN:=by rw[KG];omega
 have HL:=Λ Yj (show n<S2.kN.length by omega) (show n+1<S2.kN.length by omega);have yk:=zh L3;have HS:=zh Xh;have HX:=zh hx;have HB:=zh QW;have HN:=Λ Qh qh Yn;have YY:=zh (show S2.cL=s.cL/\S2.bE=s.bE by rw[Q7];exact⟨rfl,rfl⟩);obtain⟨a1,KI⟩:∃ y,y=st+1:=⟨_,rfl⟩;obtain⟨b1,KL⟩:∃ y,y=st+1+1:=⟨_,rfl⟩;have AU:=zh (show a1=qi.getD n 0 by omega);have:=zh (show b1=qi.getD (n+1) 0 by omega)
 have Y0:=Ψ yj Hh KI KL;clear yj Hh KI KL kA kB M0 U3 sto stt stl aI xf Yj L3 Xh hx QW qf Pe Qh qh Yn N0 N1 N2 N3 Xy Vu CS hu Q7 KG Qb Ho hn hL;go_in;go_upto_region 34 with fail
 rw[<-Y0.o.1,<-Y0.o.2.1,<-Y0.o.2.2.1,<-show b1=a1+1 by rw[Y0.o.2.2.2,Y0.o.2.2.1]];clear Ap CN Bl TN;obtain⟨vi1,Yt,XF⟩:=AV.o.ready i HL.o.1;rw[<-Tg.o] at Yt XF;have c1:=Yt.cell;have TB:=zh Yt.row;have Tp:=zh Yt.kept;have Tq:=zh XF;have KQ:I (bD S2.kN i)+1<=1000000000:=(by have h0:=Iz.o i;omega);clear Yt XF
 go_upto_region 35 with (at_builtin;refine dM rfl jY rfl zzCo [aF a1] KQ ?_;intro va1 wa1 vd X8 KM;obtain⟨ga1,ca1,rfl⟩:=cH vd;obtain⟨ka1,kb1,kc1⟩:=Tp.o _ _ X8)
 obtain⟨Tf,yu⟩:=Tq.o [n] (λj hj=>by rw[zMs] at hj;subst hj;exact HL.o.2.1) (Ω #[aF a1] 170) wa1 _ zzB5 X8 KM;have QO:=zh yu;clear yu vd X8 KM ka1 kb1 kc1 c1 KQ;generalize wa1.setCell ai.a (σ ga1 (I (bD S2.kN i)+1) ca1)=Ps at QO ⊢;have yu:=QO.o;rw[<-HS.o] at yu;have Yo:=(yu.upd.keep st Hl.o.2.2 (.inl Hl.o.2.1)).trans Hl.o.1
 have:Ps.v st 0 (Δ (fU t) x):=by have h0:=zQ 0 Yo;simpa using h0
 have Hj:=ih n S3 Ps Tf bl bm qi rU fO _ yu.lay (by have h:=yk.o;unfold bW at h;have:=HN.o;have:=YY.o;rw[HS.o];grind [bC.link])
  zzDP zzDP
  (aW.upd yu.upd PF.o) zzAQ HX.o
  (by
   have hc:S3.cL=s.cL:=(by rw[HS.o];exact YY.o.1);rw[hc];exact⟨HB.o.1,λk=>by have:=Iz.o k;omega⟩)
 rw[<-AU.o] at Hj;have qw:=zh Hj;have FE:=zh yu;clear Hj yu Yo;go_wp2_with fail;refine qw.o.mono ?_;rintro e w5 ⟨rfl,yq,KH⟩;exact⟨rfl,rfl,yq,(Ur.o.trans FE.o.upd).trans KH⟩
theorem zgB (ta tb:aL) (jv:LayN ta) (ihb:LayN tb):LayN (.either ta tb):=by
 intro i s w tag bl bm Hd rU fO v hL Qh qh Yn hT hi qf QW;rw[fE] at qf;simp only[aW] at hT;obtain⟨ua,ub,rfl,Ih,AK⟩:=hT;obtain⟨xa,rfl,_⟩:=kE ta ua _ w Ih;obtain⟨xb,rfl,_⟩:=kE tb ub _ w AK;obtain⟨ai,xf⟩:=zE (χ Hd i 0);rw[<-xf];have Ap:=λv=>zaA v;have CN:=λv=>zaB v;have Bl:=λv=>zaC v;have N0:iA tag bl bm w s rU fO Hd tag w:=⟨hL,eA.refl _ _⟩;have Ho:=N0.len;have N1:=N0.alloc0 (Ω #[Δ (fU ta) xa,Δ (fU tb) xb] 244)
 obtain⟨Qz,N2,Xy⟩:=N1.push2;obtain⟨XK,N3,Vu⟩:=N2.push2;obtain⟨xy,N4,E8⟩:=N3.push2;obtain⟨n,hn⟩:=zE (I s.kN);obtain⟨st,Hh⟩:=zE (w.heap.size);obtain⟨S2,Q7⟩:=zE (((s.push ⟨[],0,false⟩).push ⟨[],0,false⟩).push ⟨[],0,false⟩)
 obtain⟨qi,Qb⟩:=zE (Hd++[(κ w (Ω #[Δ (fU ta) xa,Δ (fU tb) xb] 244)).heap.size]++[(κ (κ w (Ω #[Δ (fU ta) xa,Δ (fU tb) xb] 244)) (Ω #[ν,ι 0,φ false,φ false] 172)).heap.size]++[(κ (κ (κ w (Ω #[Δ (fU ta) xa,Δ (fU tb) xb] 244)) (Ω #[ν,ι 0,φ false,φ false] 172)) (Ω #[ν,ι 0,φ false,φ false] 172)).heap.size])
 obtain⟨w3,yj⟩:=zE (κ (κ (κ (κ w (Ω #[Δ (fU ta) xa,Δ (fU tb) xb] 244)) (Ω #[ν,ι 0,φ false,φ false] 172)) (Ω #[ν,ι 0,φ false,φ false] 172)) (Ω #[ν,ι 0,φ false,φ false] 172));rw[<-Qb,<-yj,<-Q7] at N4;have M0:iA xy bl bm w3 S2 rU fO qi xy w3:=⟨N4.lay,eA.refl _ _⟩;have U3:=N4.upd;have KG:I S2.kN=n+3:=by rw[Q7,hn];simp[bC.push]
 have CS:=M0.len;have sto:w3.h st #[Δ (fU ta) xa,Δ (fU tb) xb] 244:=by
  rw[yj,Hh,aV,zN zx,aV,zN zx,aV,zN zs,aV,zP rfl]
 have stt:xy st=0:=by
  rw[E8 st zzCb,Vu st zzCb,Xy st (by simp[Hh]),Hh];simp[dI]
 have stl:st<w3.t:=aA sto;have kA:st+1=χ qi n 0:=by
  rw[Qb,bK zg,bK zg,hn,<-Ho,cV,Hh];simp
 have kB:st+1+1=χ qi (n+1) 0:=by
  exact zzB1
 have kC:st+1+1+1=χ qi (n+2) 0:=by
  exact zzAs
 have aI:ai=χ qi i 0:=by
  rw[Qb,bK zg,bK zg,bK zo];exact xf
 rw[<-hn,<-Q7] at qf;obtain⟨S3,Xh⟩:=zE (S2.link i [n,n+1]);have L3:=bW.link S2 i [n,n+1];rw[<-Xh] at qf L3;have Pe:∀ k,I (bD S3.kN k)+(pG ta (I s.cL)+if I s.cL+gJ ta<=65 then pG tb (I s.cL+gJ ta) else 0)<=1000000/\I (bD S2.kN k)<=999998:=λk=>by
  have h1:=QW.2 k;have h2:=zho S2 i [n,n+1] k;have h3:=zT (zaG ((s.push ⟨[],0,false⟩).push ⟨[],0,false⟩) 0 false k) (zT (zaG (s.push ⟨[],0,false⟩) 0 false k) (zaG s 0 false k));exact zzCg
 have Iz:=zh Pe;have A2:=zh (aW.upd U3 Ih);have Vl:=zh (aW.upd U3 AK);have AV:=zh M0;have Ur:=zh U3;have Hl:=Λ sto stt stl;have Tg:=zh aI;have Yj:i<I S2.kN:=by rw[KG];omega
 have HL:=Ψ Yj (show n<S2.kN.length by omega) (show n+1<S2.kN.length by omega) (show n+2<S2.kN.length by omega);have yk:=zh L3;have HS:=zh Xh;have BV:=zh qf;have HB:=zh QW.1;have HN:=Λ Qh qh Yn;have YY:=zh (show S2.cL=s.cL/\S2.bE=s.bE by rw[Q7];exact⟨rfl,rfl⟩);obtain⟨a1,KI⟩:∃ y,y=st+1:=⟨_,rfl⟩;obtain⟨b1,KL⟩:∃ y,y=st+1+1:=⟨_,rfl⟩;obtain⟨d1,US⟩:∃ y,y=st+1+1+1:=⟨_,rfl⟩
 have AU:=zh (show a1=qi.getD n 0 by omega);have ed:=zh (show b1=qi.getD (n+1) 0 by omega);have Y0:=Ψ yj Hh KI (zAi KL US);clear yj Hh KI KL US kA kB kC M0 U3 sto stt stl aI xf Yj L3 Xh QW qf Pe Qh qh Yn N0 N1 N2 N3 N4 Xy Vu E8 CS Ih AK Q7 KG Qb Ho hn hL;go_in;go_upto_region 24 with fail
 refine zzCZ ?_;clear Ap CN Bl;obtain⟨vi1,Yt,XF⟩:=AV.o.ready i HL.o.1;rw[<-Tg.o] at Yt XF;have c1:=Yt.cell;have TB:=zh Yt.row;have Tp:=zh Yt.kept;have Tq:=zh XF;have KQ:I (bD S2.kN i)+2<=1000000000:=(by have h0:=Iz.o i;omega);clear Yt XF
 go_upto_region 25 with (at_builtin;refine bM _ rfl _ _ rfl jY _ _ _ rfl zzCo ⟨_,0,none⟩ 2 2 [aF a1,aF b1] rfl rfl (cI _ #[aF a1,aF b1] _ _ zs) zzAU zd KQ zd ?_;intro va1 wa1 vd X8 KM;obtain⟨ga1,ca1,rfl⟩:=cH vd;obtain⟨ka1,kb1,kc1⟩:=Tp.o _ _ X8)
 obtain⟨Tf,yu⟩:=Tq.o [n,n+1] (λj hj=>by simp only[List.mem_cons,List.not_mem_nil,or_false] at hj;have:=HL.o;omega) (Ω #[aF a1,aF b1] 170) wa1 _ zzB9 X8 KM;have QO:=zh yu;clear yu vd X8 KM ka1 kb1 kc1 c1 KQ;generalize wa1.setCell ai.a (σ ga1 (I (bD S2.kN i)+1+1) ca1)=Ps at QO ⊢;have yu:=QO.o.drew;rw[<-HS.o] at yu
 have Yo:=(yu.upd.keep st Hl.o.2.2 (.inl Hl.o.2.1)).trans Hl.o.1;have d0:Ps.v st 0 (Δ (fU ta) xa):=by have h0:=zQ 0 Yo;simpa using h0
 have d1':Ps.v st 1 (Δ (fU tb) xb):=by have h0:=zQ 1 Yo;simpa using h0
 have QZ:=AV.o.len;have Pu:=zh (show I S3.cL=I s.cL/\I S3.bE=s.bE.length by rw[HS.o];exact⟨congrArg List.length YY.o.1,congrArg List.length YY.o.2⟩);have NN:I rU=I S3.cL/\I S3.bE=I S3.cL/\0<I S3.cL/\n<I S3.kN/\n+1<I S3.kN:=by have h:=yk.o;have:=HL.o;unfold bW at h;have:=HN.o;have:=Pu.o;refine⟨?_,?_,?_,?_,?_⟩<;>omega
 have HW:=zh NN;have Cu:∀ (w5:ω) (yq:Nat->Nat),eA Tf yq Ps.drew w5->w5.v st 0 (Δ (fU ta) xa)/\w5.v st 1 (Δ (fU tb) xb)/\st<w5.t:=by
  exact zzBd
 have dg:=zh Cu;have Kl:=zh yu;cases hx:fE ta n S3 with
 | none=>
  have Hj:=jv n S3 Ps.drew Tf bl bm qi rU fO _ yu.lay HW.o.1 HW.o.2.1 HW.o.2.2.1 (aW.upd yu.upd A2.o) HW.o.2.2.2.1 hx (by rw[Pu.o.1];exact⟨HB.o,λk=>by have:=Iz.o k;omega⟩);rw[<-AU.o] at Hj;have qw:=zh Hj;clear yu Yo Hj Cu QZ NN hx;refine zai (λc w'=>c=[{v:=Δ 86 (ι 6),recovered:=false}]/\∃ He,eA tag He w w') (λc a w h1 h2=> ?_) ?_
  . obtain⟨rfl,h3⟩:=h1
    exact⟨h2,rfl,h3⟩
  refine wp_region_held_drew (S:=λw'=>w'.v st 0 (Δ (fU ta) xa)/\w'.v st 1 (Δ (fU tb) xb)) zr (by exact⟨d0,d1'⟩) (λHc=> ?_);refine zzA0 ?_;refine uY 4 (λK hK=> ?_);go_simp;go_at_call 63;refine qw.o.mono ?_;rintro e w5 ⟨rfl,yq,KH⟩;exact⟨⟨rfl,yq,(Ur.o.trans Kl.o.upd).trans KH⟩,rfl⟩
 | some pq=>
  obtain⟨p1,S4⟩:=pq;have hy:fE tb (n+1) S4=none:=by
   have qf:=BV.o;rw[hx] at qf;simp only at qf;cases hy:fE tb (n+1) S4 with
   | none=>rfl
   | some pq=>rw[hy] at qf;grind
  have HLA:=zh (iD _ _ _ _ _ hx);obtain⟨_,_,Nb⟩:=sH ta n S3 p1 S4 HW.o.2.2.2.1 zo hx;obtain⟨cl1,cl2,YU⟩:=zd0 hx (by rw[Pu.o.1];exact HB.o);rw[Pu.o.1] at cl1 cl2 YU;have IV:I S4.cL<=65/\∀ k,I (bD S4.kN k)+pG tb (I S4.cL)<=1000000:=⟨zo,λk=>by
   have h1:=Nb.deg k;have h2:=(Iz.o k).1
   grind⟩
  have Hj:=(xW ta) n p1 S3 S4 Ps.drew Tf bl bm qi rU fO _ yu.lay HW.o.1 HW.o.2.1 HW.o.2.2.1 (aW.upd yu.upd A2.o) HW.o.2.2.2.1 hx (λk=>by have:=IV.2 k;omega);rw[<-AU.o] at Hj;have KR:∀ (w5:ω) (yq:Nat->Nat) (Xg:ο),jC w5 yq bl bm (qi++Xg) S4 (rU++ψ (I S4.cL-I S3.cL) (-1)) fO->eA Tf yq Ps.drew w5->
   Γ 63 #[π bm,Δ (fU tb) xb,aF b1] w5 (LayX yq w5):=by
   intro w5 yq Xg A9 KH;have h:=HLA.o;unfold bW at h;have h2:=HW.o;have h3:=ihb (n+1) S4 w5 yq bl bm (qi++Xg) (rU++ψ (I S4.cL-I S3.cL) (-1)) fO _ A9
    (by simp only[zLn,List.length_replicate];omega) zo zo (aW.upd (yu.upd.trans KH) Vl.o) zo hy IV
   rw[bK (by rw[QZ];exact HL.o.2.2.1),<-ed.o] at h3;exact h3
  have qw:=zh Hj;have Vv:=zh KR;clear yu Yo Hj KR Cu QZ NN hx hy Nb IV cl1 cl2 YU;refine zai (λc w'=>c=[{v:=Δ 86 (ι 6),recovered:=false}]/\∃ He,eA tag He w w') (λc a w h1 h2=> ?_) ?_
  . obtain⟨rfl,h3⟩:=h1
    exact⟨h2,rfl,h3⟩
  refine wp_region_held_drew (S:=λw'=>w'.v st 0 (Δ (fU ta) xa)/\w'.v st 1 (Δ (fU tb) xb)) zr (by exact⟨d0,d1'⟩) (λHc=> ?_);refine zzA0 ?_;refine uY 4 (λK hK=> ?_);go_simp;go_at_call 63;refine qw.o.mono ?_;rintro e w5 ⟨yq,Xg,rfl,A9,Ta,KH⟩;have jo:=zh A9;have A4:=zh KH;clear A9 KH;obtain⟨z0,z1,z2⟩:=dg.o _ _ A4.o;refine hK.out _ _ ⟨z0,z1⟩ (λyy=> ?_);clear hK K Hc;have Hc:=yy;clear yy;refine zzAF ?_;refine uY 9 (λK hK=> ?_);go_simp;go_at_call 63;refine (Vv.o _ _ _ jo.o A4.o).mono ?_;rintro e w6 ⟨rfl,Xs,Bk⟩
  exact⟨⟨rfl,Xs,((Ur.o.trans Kl.o.upd).trans A4.o).trans Bk⟩,rfl⟩
theorem zaO:∀ t:aL,LayN t
 | .cL c=>layN_cls c
 | .row l=>layN_row l (λt _=>zaO t)
 | .either a b=>zgB a b (zaO a) (zaO b)
 | .rep t m o=>layN_rep t m o (zaO t)
