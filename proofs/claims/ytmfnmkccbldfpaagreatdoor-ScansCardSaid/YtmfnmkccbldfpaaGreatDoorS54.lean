/- Part of a proof. No condition. -/
import Derived.Test.YtmfnmkccbldfpaaGreatDoorS53
import Derived.Test.YtmfnmkccbldfpaaGreatDoorS48
set_option linter.unusedVariables false
set_option linter.unusedSimpArgs false
set_option maxRecDepth 100000
set_option maxHeartbeats 4000000
namespace Go.Proofs.YtmfnmkccbldfpaaGreatDoor
open Go.RowKit Go.Lib Tryz
theorem zzDq {p:Prop} (h:p:=by
 exact⟨by show (0:Int)<=0/\(0:Int)<=100;decide,.inl rfl⟩):p:=h
theorem zzDh {p:Prop} (h:p:=by
 have h1:=HS.o.len;have h2:=HS.o.wf.aQ;have h3:=HS.o.wf.sz;omega):p:=h
theorem zzDe {p:Prop} (h:p:=by have:=HL.o;unfold Wld.cost at this;omega):p:=h
theorem zzDZ {p:Prop} (h:p:=by
 rintro e w' ⟨rfl,rfl⟩;exact⟨none,rfl,iM,.inl ⟨rfl,rfl⟩⟩):p:=h
variable {N b n k R0 C N0 xb tb:Nat} {t e:TypeId} {xs:ζ} {T:dX} {w w':ω} {l:List Pc}
structure lI (Ch:Nat->Prop) (w w':ω):Prop where
 os:w'.os=w.os
 tape:w'.tape=w.tape
 output:w'.output=w.output
 size:w.heap.size<=w'.heap.size
 keep:∀ b,b<w.heap.size->¬ Ch b->w'.e w b
abbrev tabTy:List TypeId:=[183,3,24,21,116,190,196,60,97]
def Off (L:List TypeId) (Ch:Nat->Prop) (w:ω):Prop:=∀ g,Ch g->∃ t,t∈L/\Ty w g t
section
variable {w w' w2:ω} {Ch Ch2:Nat->Prop} {L:List TypeId}
theorem lI.of_below (h:w.u w'):lI Ch w w':=⟨h.os,h.tape,h.output,h.size,λb hb _=>h.block b hb⟩
theorem lI.of_grown {g:Option Nat} (h:w.grownBy w' g) (hg:∀ b,g=some b->Ch b):lI Ch w w':=⟨h.os,h.tape,h.output,h.size,λb hb hc=>h.block b hb λe=>hc (hg b e.symm)⟩
theorem lI.trans (h:lI Ch w w') (k:lI Ch2 w' w2) (hs:∀ b,Ch2 b->Ch b\/w.t<=b):lI Ch w w2:=
 ⟨k.os.trans h.os,k.tape.trans h.tape,k.output.trans h.output,zT h.size k.size,λb hb hc=>(k.keep b (zLd hb h.size) λh2=>(hs b h2).elim hc (Nat.not_le_of_lt hb)).trans (h.keep b hb hc)⟩
theorem lI.mono (h:lI Ch w w') (hs:∀ b,Ch b->Ch2 b):lI Ch2 w w':=⟨h.os,h.tape,h.output,h.size,λb hb hc=>h.keep b hb λk=>hc (hs b k)⟩
theorem lI.below (h:lI Ch w w') (hN:N<=w.t) (hs:∀ b,Ch b->N<=b):Below N w w':=⟨h.os,h.tape,h.output,h.size,λb hb=>h.keep b (zLd hb hN) λk=>Nat.not_le_of_lt hb (hs b k)⟩
theorem Off.not (ho:Off L Ch w) (h:Ty w b t) (ht:t∉L):¬ Ch b:=λhh=>by
 obtain⟨t2,h1,cs2,h2⟩:=ho b hh;obtain⟨cs,h3⟩:=h;exact ht (mW h2 h3▸h1)
theorem zcB {g:Nat} (h:Ty w g t):Off [t] (· =g) w:=λb e=>⟨t,zs,e▸h⟩
theorem lI.kept {o:Obj} (h:lI Ch w w') (hb:w.heap[b]?=some o) (hc:¬ Ch b):w'.heap[b]?=some o:=(h.keep b (aA hb) hc).trans hb
theorem lI.ty (h:lI Ch w w') (hb:Ty w b t) (hc:¬ Ch b):Ty w' b t:=hb.imp λ_ e=>h.kept e hc
theorem rH {cs:Array Value} (h:w.h b cs t) (hc:lI Ch w w') (ho:Off L Ch w) (ht:t∉L):w'.h b cs t:=hc.kept h (ho.not ⟨cs,h⟩ ht)
theorem eJ {size:Nat} {v:Value} (h:w.r e size v n xs) (hc:lI Ch w w') (ho:Off L Ch w) (he:e∉L):w'.r e size v n xs:=
 aU h λg hg=>hc.keep g (h.lt g hg).2 (ho.not (dE h hg) he)
theorem gM.chd {B bt:Nat} {bc cc br cr bg cg:Nat} (h:gM B w bt T bc cc br cr bg cg) (hc:lI Ch w w') (ho:Off L Ch w) (hL:∀ t∈tabTy,t∉L):gM B w' bt T bc cc br cr bg cg:=by
 have h1:=hL 183 zd;have h2:=hL 3 zd;have h3:=hL 24 zd;have h4:=hL 21 zd;obtain⟨rc,hr⟩:=h.cU;obtain⟨t1,t2,t3,t4⟩:=h.ty;have key:∀ {b t},Ty w b t->t∉L->w'.e w b:=λhb ht=>by
  obtain⟨cs,e⟩:=hb;exact hc.keep _ (aA e) (ho.not ⟨cs,e⟩ ht)
 have cel:∀ {b t},Ty w b t->t∉L->∀ i,w'.cell? (b.p i)=w.cell? (b.p i):=λhb ht i=>by
  unfold World.cell?;rw[key hb ht]
 have row:∀ {i row},T.gO[i]?=some row->∀ {b c},w.v bg i (σ b (I row) c)->Ty w b 3:=λhr _ _ e=>t4 _ _ _ _ (pO hr) e;refine⟨h.lt,(cel t1 h1 _).trans h.c0,(cel t1 h1 _).trans h.c1,(cel t1 h1 _).trans h.c2,(cel t1 h1 _).trans h.c3,⟨rc,(key ⟨_,hr⟩ h4).trans hr⟩,h.ltc,λi x hx=>(cel t2 h2 _).trans (h.rU i x hx),h.ltr,λi r hr=> ?_,h.ltg,h.cap0,h.size,hc.ty t1 (ho.not t1 h1),hc.ty t2 (ho.not t2 h2),hc.ty t3 (ho.not t3 h3),λi b n c hi e=> ?_⟩
 . obtain⟨b,c,k1,k2,k3⟩:=h.gO i r hr
   exact⟨b,c,(cel t3 h3 _).trans k1,k2,λj x hx=>(cel (row hr k1) h2 _).trans (k3 j x hx)⟩
 rw[cel t3 h3] at e
 have:=t4 i b n c hi e;exact hc.ty this (ho.not this h2)
theorem gW.chd {rb:Nat} {D:TD} {S:TS} (h:gW rb D S w) (hc:lI Ch w w') (ho:Off L Ch w) (hL:∀ t∈tabTy,t∉L):gW rb D S w':=
 have h2:=hL 3 zd;have h3:=hL 24 zd
 ⟨rH h.blk hc ho (hL _ zd),eJ h.rR hc ho (hL _ zd),λp hp=>eJ (h.rr p hp) hc ho (hL _ zd),eJ h.lR hc ho h2,eJ h.fR hc ho h3,λi v hv=>eJ (h.fli i v hv) hc ho h2,
  eJ h.crow hc ho h2,eJ h.srow hc ho h3,λi v hv=>eJ (h.sli i v hv) hc ho h2,eJ h.grow hc ho h3,λi v hv=>eJ (h.gli i v hv) hc ho h2,h.a1,h.a2⟩
end
structure BothS (w:ω) (b:Nat) (T:dX) (D:TD) (S:TS) (R cb tb bc cc br cr bg cg rb:Nat):Prop where
 blk:w.h b #[aF cb,bH rb] 60
 cell:w.h cb #[aF tb] 97
 tab:gM w.t w tb T bc cc br cr bg cg
 ref:gW rb D S w
 same:SameT T D R
def rY (w:ω) (b:Nat):Prop:=∃ T D S R cb tb bc cc br cr bg cg rb,BothS w b T D S R cb tb bc cc br cr bg cg rb
section
variable {w w':ω} {g:Nat} {cs:Array Value} {Ch:Nat->Prop} {L:List TypeId}
theorem rY.chd (h:rY w b) (hc:lI Ch w w') (ho:Off L Ch w) (hL:∀ t∈tabTy,t∉L):rY w' b:=by
 obtain⟨T,D,S,R,cb,tb,bc,cc,br,cr,bg,cg,rb,h1,h2,h3,h4,h5⟩:=h;exact⟨T,D,S,R,cb,tb,bc,cc,br,cr,bg,cg,rb,rH h1 hc ho (hL _ zd),rH h2 hc ho (hL _ zd),(h3.chd hc ho hL).mono hc.size,h4.chd hc ho hL,h5⟩
theorem pD:Off [] (λ_=>False) w:=λ_ h=>h.elim
theorem rY.below (h:rY w b) (hb:w.u w'):rY w' b:=h.chd (lI.of_below hb) pD zd
theorem yN.oth {v:Value} {e:Nat} {i k:Int} (h:yN w v e i k) (hA:w.h g cs 9) (hk:∀ b,b≠g->w'.e w b):yN w' v e i k:=by
 cases h with
 | none=>exact .none
 | num e h=>exact .num e h
 | fault b e i k h hf=>exact .fault b e i k h ((hk b (by rintro rfl;exact absurd (mW hf hA) zd)).trans hf)
end
def CpdO (w:ω) (e:Ending) (w':ω):Prop:=w.u w'/\(e=ρ (ϕ #[Φ none,φ true])\/∃ b,e=ρ (ϕ #[bH b,φ true])/\rY w' b)
theorem zdQ {g:Nat} (h:w.g w' g) (hz:w'.heap.size=w.heap.size):∀ b,b≠g->w'.e w b:=λb hb=>by
 rcases zLg b w.t with h1|h1
 . exact h.block b h1 (λe=>hb (zO e))
 grind
theorem zfe (sT:List η) (w:ω) (v:Value) (Hb:w.r 9 1 v (I sT) (sT.map Value.string)) (hl:I sT<=900000) (hG:Gl w):
 Γ 9 #[v] w (CpdO w):=by
 have hver:=ver_total sT w v Hb hl hG.pos;have CD:=zh (ziC sT w v Hb hl);obtain⟨ao,cap,hv⟩:=bJ Hb;rw[hv] at CD Hb ⊢;clear hv
 rcases hver with⟨er,i,k,hV,hvp⟩|⟨ts,M,rU,gO,Hq,hvp⟩
 . have HV:=zh hV
   clear hV;go_in;go_upto_region 2 with (have H0:=CD.o;go_at_call 15;refine H0.mono ?_;rintro e w1 ⟨g,rfl,GN,QU,Hk⟩)
   have HC:=zh (zio HV.o w1 g _ (zei GN hl) hl (hG.later Hk));go_upto_region 3 with (have H0:=HC.o;go_at_call 16;refine H0.mono ?_;rintro e w2 ⟨Hm,Dh,x2,rfl,Yl⟩;have H2:=Λ Hm Dh Yl)
   have QD:=bI Hk H2.o.1 Hk.size;have CQ:zdj w2 g sT:=(H2.o.1.block g (aA GN)).trans GN;have HS:=zh (zf7 sT w2 g _ CQ (aN Hb QD) hl);go_upto_region 4 with (have H0:=HS.o;go_at_call 17;refine H0.mono ?_;rintro e w3 ⟨rfl,ye,Pq⟩;have H3:=Θ ye (zdQ ye Pq))
   have Hu:w.u w3:=QD.grown H3.o.1 QD.size (λg2 hg=>by cases hg;exact QU);have HR:=zh (ref_any sT w3 _ (aN Hb Hu) hl (by have:=hG.pos;have:=Hu.size;omega));rw[hvp] at HR;have dp:=zh (H2.o.2.2.oth CQ H3.o.2);go_upto_region 5 with (have H0:=HR.o;go_at_call 18;refine H0.mono ?_;rintro e w4 ⟨qu,rfl⟩;have H4:=zh qu)
   have qu:=bI Hu H4.o Hu.size;have HT:=zh (uB (dp.o.below H4.o) (hG.later qu).err (hG.later qu).pos (.inr ⟨rfl,rfl⟩));have:¬ (er:Int)=0:=by have:=H2.o.2.1;omega
   have Dh:((er:Int) != 0)=true:=zx
   go_wp2_with (first|(have H0:=HT.o;go_at_call 19;refine H0.mono ?_;rintro e w5 ⟨rfl,Qn⟩;have H5:=zh Qn));refine bodyPost_ret (v:=ϕ #[Φ none,φ true]) zzAX rfl ?_;exact⟨bI qu H5.o qu.size,.inl rfl⟩
 obtain⟨T,hT⟩:=tab_of Hq
 go_in;go_upto_region 2 with (have H0:=CD.o;go_at_call 15;refine H0.mono ?_;rintro e w1 ⟨g,rfl,GN,QU,Hk⟩)
 have HC:=zh (cmp_of_ok Hq hT w1 g _ (zei GN hl) (hG.later Hk));go_upto_region 3 with (have H0:=HC.o;go_at_call 16;refine H0.mono ?_;rintro e w2 ⟨Hm,cb,tb,bc,cc,br,cr,bg,cg,rfl,Jh,Xy,_,_⟩;have H2:=Λ Hm Jh Xy)
 have QD:=bI Hk H2.o.1 Hk.size;have CQ:zdj w2 g sT:=(H2.o.1.block g (aA GN)).trans GN;have HS:=zh (zf7 sT w2 g _ CQ (aN Hb QD) hl);go_upto_region 4 with (have H0:=HS.o;go_at_call 17;refine H0.mono ?_;rintro e w3 ⟨rfl,ye,Pq⟩;have H3:=Λ ye (zdQ ye Pq) Pq)
 have Hu:w.u w3:=QD.grown H3.o.1 QD.size (λg2 hg=>by cases hg;exact QU);have HR:=zh (ref_any sT w3 _ (aN Hb Hu) hl (by have:=hG.pos;have:=Hu.size;omega));rw[hvp] at HR;have Bm:=(H3.o.2.1 cb (by rintro rfl;exact absurd (mW H2.o.2.1 CQ) zd)).trans H2.o.2.1;have Ex:lI (· =g) w2 w3:=lI.of_grown H3.o.1 (λb e=>by cases e;rfl);have Vu:=(H2.o.2.2.chd Ex (zcB ⟨_,CQ⟩) zd).mono Ex.size;have dp:=Θ Bm Vu;clear Bm Vu Ex
 go_upto_region 5 with (have H0:=HR.o;go_at_call 18;refine H0.mono ?_;rintro e w4 ⟨qu,rb,D,S,Cr,Bv,rfl,Xn⟩;have H4:=Λ qu Cr Xn;clear Cr Xn Bv)
 unfold bH;have qu:=bI Hu H4.o.1 Hu.size;have HT:=zh (uB (w:=w4) (i2:=0) (k2:=0) .none (hG.later qu).err (hG.later qu).pos (.inl rfl));go_wp2_with (first|(have H0:=HT.o;go_at_call 19;refine H0.mono ?_;rintro e w5 ⟨rfl,Qn⟩;have H5:=zh Qn));refine bodyPost_ret (v:=ϕ #[bH w5.t,φ true]) (by simp_all[results,bH]) rfl ?_;have Qn:=bI qu H5.o qu.size;have MA:=bI H4.o.1 H5.o H4.o.1.size;have QT:=Ξ w5 (Ω #[aF cb,bH rb] 60)
 have Gg:=bI MA QT MA.size;refine⟨bI Qn QT Qn.size,.inr ⟨w5.t,rfl,T,D,S,I sT,cb,tb,bc,cc,br,cr,bg,cg,rb,bA _ _ _ rfl,(Gg.block _ (aA dp.o.1)).trans dp.o.1,(dp.o.2.below Gg).mono Gg.size,H4.o.2.1.below (bI H5.o QT H5.o.size),H4.o.2.2 sT T hT⟩⟩
abbrev zdw:List TypeId:=tabTy++[69,73,47]
abbrev vol3:List TypeId:=[125,155,5]
abbrev vol4:List TypeId:=137::vol3
def fp (bs sb:Nat) (bv:Value):Nat->Prop:=λb=>b=bs\/b=sb\/β bv=some b
def ScP (N0:Nat) (T:dX) (C xb:Nat) (x:Sc) (F:Nat->Prop) (w:ω):Prop:=∃ N BT B bs bt sb bc cc br cr bg cg bv,RdyS N BT T C xb x ν w B bs bt sb bc cc br cr bg cg bv/\N0<=N/\F=fp bs sb bv
def ScGo (N0:Nat) (T:dX) (C xb:Nat) (x:Sc) (F:Nat->Prop) (w w':ω):Prop:=∃ F',ScP N0 T C xb x F' w'/\lI F w w'/\∀ b,F' b->F b\/w.t<=b
section
variable {N0 N BT:Nat} {T:dX} {C xb:Nat} {x x':Sc} {w w':ω} {B bs bt sb bc cc br cr bg cg:Nat} {bv bv':Value} {Ch F:Nat->Prop} {L L2:List TypeId}
theorem Off.lt (ho:Off L Ch w) (h:Ch b):b<w.t:=by
 obtain⟨_,_,_,h⟩:=ho b h;exact aA h
theorem Off.mono (ho:Off L Ch w) (hs:∀ t∈L,t∈L2):Off L2 Ch w:=λg hg=>(ho g hg).imp λt h=>⟨hs t h.1,h.2⟩
theorem oP.chd {S:lN} (h:oP B w sb S) (hc:lI Ch w w') (ho:Off L Ch w) (hs:¬ Ch sb) (hp:47∉L):oP B w' sb S:=by
 obtain⟨ao,cap,reads,pb,off,h1,h2,h0,h3,h4⟩:=h;refine⟨ao,cap,reads,pb,off,hc.kept h1 hs,h2,h0,λhn=>⟨(h3 hn).1,(h3 hn).2.1,(h3 hn).2.2.1,hc.ty (h3 hn).2.2.2 (ho.not (h3 hn).2.2.2 hp)⟩,λi p hi=> ?_⟩;have qg:S.l≠[]:=λe=>by rw[e] at hi;cases hi
 obtain⟨cs,e⟩:=(h3 qg).2.2.2;have hk:=hc.keep pb (aA e) (ho.not ⟨cs,e⟩ hp);have key:∀ o,w'.cell? (pb.p o)=w.cell? (pb.p o):=λo=>by
  unfold World.cell?;rw[hk]
 obtain⟨q1,q2,q3⟩:=h4 i p hi;exact⟨(key _).trans q1,(key _).trans q2,(key _).trans q3⟩
theorem RdyS.chd (h:RdyS N BT T C xb x ν w B bs bt sb bc cc br cr bg cg bv) (hc:lI Ch w w') (ho:Off L Ch w) (hL:∀ t∈zdw,t∉L) (hd:∀ b,Ch b->¬ fp bs sb bv b):RdyS N BT T C xb x ν w' B bs bt sb bc cc br cr bg cg bv:=
 ⟨⟨hc.kept h.st.sc λk=>hd _ k (.inl rfl),h.st.buf.kept λg hg=>hc.keep g (h.st.buf.lt g hg) λk=>hd _ k (.inr (.inr hg)),h.st.src.chd hc ho (λk=>hd _ k (.inr (.inl rfl))) (hL _ zd),h.st.ok,h.st.bB,h.st.own⟩,
  rH h.hx hc ho (hL _ zd),h.xne,h.tab.chd hc ho (λt ht=>hL t (List.mem_append_left _ ht)),h.glob,h.low,λg hg=>by cases hg⟩
theorem ScP.chd (h:ScP N0 T C xb x F w) (hc:lI Ch w w') (ho:Off L Ch w) (hL:∀ t∈zdw,t∉L) (hd:∀ b,Ch b->¬ F b):ScP N0 T C xb x F w':=by
 obtain⟨N,BT,B,bs,bt,sb,bc,cc,br,cr,bg,cg,bv,h,h0,rfl⟩:=h;exact⟨N,BT,B,bs,bt,sb,bc,cc,br,cr,bg,cg,bv,h.chd hc ho hL hd,h0,rfl⟩
theorem ScP.off (h:ScP N0 T C xb x F w):Off vol3 F w/\∀ b,F b->N0<=b:=by
 obtain⟨N,BT,B,bs,bt,sb,bc,cc,br,cr,bg,cg,bv,h,h0,rfl⟩:=h;refine⟨?_,?_⟩
 . rintro g (rfl|rfl|hg)
   . exact⟨125,zd,_,h.st.sc⟩
   . obtain⟨ao,cap,reads,pb,off,h1,_⟩:=h.st.src
     exact⟨155,zd,_,h1⟩
   rcases h.st.buf with⟨e,_⟩|⟨g2,off,cap,cells,e,_,h3,_⟩
   all_goals rw[e] at hg;cases hg
   exact⟨5,zd,_,h3⟩
 have hl:=h.low
 rintro b (rfl|rfl|hb)
 . omega
 . omega
 have:=hl.2.2.2 b hb
 omega
theorem RdyS.go (h:RdyS N BT T C xb x ν w B bs bt sb bc cc br cr bg cg bv) (h0:N0<=N) (hs:ScX B w' bs bt sb C x' bv') (hk:iI bs sb bv bv' w w'):ScGo N0 T C xb x' (fp bs sb bv) w w':=by
 refine⟨fp bs sb bv',⟨_,_,_,_,_,_,_,_,_,_,_,_,_,h.next hs hk (ov':=ν) (λg hg=>by cases hg),h0,rfl⟩,⟨hk.os,hk.tape,hk.output,hk.size,λb hb hn=>hk.keep b hb (λe=>hn (.inl e)) (λe=>hn (.inr (.inl e))) (λe=>hn (.inr (.inr e)))⟩,?_⟩;rintro b (rfl|rfl|hb)
 . exact .inl (.inl rfl)
 . exact .inl (.inr (.inl rfl))
 exact (hk.new b hb).imp (λe=>.inr (.inr e)) id
theorem ScP.next (hT:yV T R0) (h:ScP N0 T C xb x F w) (hTabs:oK w) (hC:4<=C/\C<=100000) (hw:xF 100000 C x):
 ∃ bs,w.h xb #[aF bs] 73/\Γ 22 #[aF bs] w λe w'=>e=ρ (ϕ #[tkV (jA T C x).1,fN (jA T C x).2.1])/\ScGo N0 T C xb (jA T C x).2.2 F w w':=by
 obtain⟨N,BT,B,bs,bt,sb,bc,cc,br,cr,bg,cg,bv,h,h0,rfl⟩:=h;refine⟨bs,h.hx,(zcy T R0 hT BT B w bs bt sb C bc cc br cr bg cg 100000 x bv h.st h.tab hTabs h.glob (by have:=h.low;omega) hC.1 zo hw zo).mono ?_⟩;rintro e w' ⟨rfl,bv',hs,hk⟩;exact⟨rfl,h.go h0 hs hk⟩
theorem ScP.all (hT:yV T R0) (h:ScP N0 T C xb x F w) (hTabs:oK w) (hC:4<=C/\C<=100000) (hw:xF 100000 C x) (m:Nat) (hm:1<=m) (Jm:m<=9223372036854775807):
 Γ 25 #[aF xb,ι m] w λe w'=>∃ outv,e=ρ (ϕ #[outv,fN (mG T C m x []).2.1])/\w'.r 64 5 outv (I ((mG T C m x []).1)) (fV (mG T C m x []).1)/\ScGo N0 T C xb (mG T C m x []).2.2 F w w':=by
 obtain⟨N,BT,B,bs,bt,sb,bc,cc,br,cr,bg,cg,bv,h,h0,rfl⟩:=h;refine (all_any T R0 hT BT B w bs bt sb C bc cc br cr bg cg 100000 xb bv m x ⟨h.hx,h.xne⟩ h.tab hTabs h.glob ⟨by have:=h.low;omega,by have:=h.low;omega,λg hg=>by have:=h.low.2.2.2 g hg;have:=h.low.1;omega⟩ hC.1 zo zo hw hm Jm h.st).mono ?_;rintro e w' ⟨outv,rfl,Hb,bv',hs,hk,_⟩;exact⟨outv,rfl,zh1 Hb rC,h.go h0 hs hk⟩
end
structure sA (N0:Nat) (T:dX) (C xb yb rb tb:Nat) (x y:Sc) (r:uU) (Fx Fy:Nat->Prop) (w:ω):Prop where
 px:ScP N0 T C xb x Fx w
 py:ScP N0 T C yb y Fy w
 pr:rD w rb tb r
 ref:RefT w tb T
 dis:∀ b,Fx b->¬ Fy b
 lo:N0<=rb
def fp3 (Fx Fy:Nat->Prop) (rb:Nat):Nat->Prop:=λb=>Fx b\/Fy b\/b=rb
section
variable {N0:Nat} {T:dX} {C xb yb rb tb:Nat} {x y x':Sc} {r r':uU} {Fx Fy Ch F:Nat->Prop} {w w':ω} {L:List TypeId}
theorem RefT.chd (h:RefT w tb T) (hc:lI Ch w w') (ho:Off L Ch w) (hL:∀ t∈zdw,t∉L):RefT w' tb T:=by
 obtain⟨D,S,n,m,R,h1,h2,h3,h4⟩:=h;exact⟨D,S,n,m,R,h1.chd hc ho (λt ht=>hL t (List.mem_append_left _ ht)),h2,h3,h4⟩
theorem sA.swap (h:sA N0 T C xb yb rb tb x y r Fx Fy w):sA N0 T C yb xb rb tb y x r Fy Fx w:=⟨h.py,h.px,h.pr,h.ref,λb h1 h2=>h.dis b h2 h1,h.lo⟩
theorem sA.off (h:sA N0 T C xb yb rb tb x y r Fx Fy w):Off vol4 (fp3 Fx Fy rb) w/\∀ b,fp3 Fx Fy rb b->N0<=b:=by
 refine⟨?_,?_⟩
 . rintro g (hg|hg|rfl)
   . exact h.px.off.1.mono (λt ht=>List.mem_cons_of_mem _ ht) g hg
   . exact h.py.off.1.mono (λt ht=>List.mem_cons_of_mem _ ht) g hg
   exact⟨_,List.mem_cons_self,_,h.pr⟩
 rintro g (hg|hg|rfl)
 . exact h.px.off.2 g hg
 . exact h.py.off.2 g hg
 exact h.lo
theorem sA.chd (h:sA N0 T C xb yb rb tb x y r Fx Fy w) (hc:lI Ch w w') (ho:Off L Ch w) (hL:∀ t∈zdw,t∉L) (hd:∀ b,Ch b->¬ fp3 Fx Fy rb b):sA N0 T C xb yb rb tb x y r Fx Fy w':=
 ⟨h.px.chd hc ho hL λb k e=>hd b k (.inl e),h.py.chd hc ho hL λb k e=>hd b k (.inr (.inl e)),hc.kept h.pr λk=>hd _ k (.inr (.inr rfl)),h.ref.chd hc ho hL,h.dis,h.lo⟩
theorem sA.stepX (h:sA N0 T C xb yb rb tb x y r Fx Fy w) (hg:ScGo N0 T C xb x' Fx w w'):∃ F',sA N0 T C xb yb rb tb x' y r F' Fy w'/\lI (fp3 Fx Fy rb) w w'/\∀ b,fp3 F' Fy rb b->fp3 Fx Fy rb b\/w.t<=b:=by
 obtain⟨F',hp,hc,hn⟩:=hg;have ho:=h.px.off.1;refine⟨F',⟨hp,h.py.chd hc ho zd h.dis,hc.kept h.pr (ho.not ⟨_,h.pr⟩ zd),h.ref.chd hc ho zd,λb h1 h2=> ?_,h.lo⟩,hc.mono λb k=>.inl k,?_⟩
 . rcases hn b h1 with e|e
   . exact h.dis b e h2
   have:=h.py.off.1.lt h2
   omega
 rintro b (k|k|k)
 . exact (hn b k).imp .inl id
 . exact .inl (.inr (.inl k))
 exact .inl (.inr (.inr k))
theorem sA.stepY {y':Sc} (h:sA N0 T C xb yb rb tb x y r Fx Fy w) (hg:ScGo N0 T C yb y' Fy w w'):∃ F',sA N0 T C xb yb rb tb x y' r Fx F' w'/\lI (fp3 Fx Fy rb) w w'/\∀ b,fp3 Fx F' rb b->fp3 Fx Fy rb b\/w.t<=b:=by
 obtain⟨F',h1,h2,h3⟩:=h.swap.stepX hg;have e:∀ (F G:Nat->Prop) b,fp3 F G rb b->fp3 G F rb b:=λF G b k=>by
  rcases k with k|k|k
  . exact .inr (.inl k)
  . exact .inl k
  exact .inr (.inr k)
 exact⟨F',h1.swap,h2.mono (e _ _),λb k=>(h3 b (e _ _ b k)).imp (e _ _ b) id⟩
theorem sA.stepR (h:sA N0 T C xb yb rb tb x y r Fx Fy w) (hg:w.g w' rb) (hr:rD w' rb tb r'):sA N0 T C xb yb rb tb x y r' Fx Fy w'/\lI (fp3 Fx Fy rb) w w':=by
 have hc:lI (· =rb) w w':=lI.of_grown hg (λb e=>by cases e;rfl);have ho:=zcB (g:=rb) ⟨_,h.pr⟩;refine⟨⟨h.px.chd hc ho zd λb e k=> ?_,h.py.chd hc ho zd λb e k=> ?_,hr,h.ref.chd hc ho zd,h.dis,h.lo⟩,hc.mono λb e=>.inr (.inr e)⟩
 . exact h.px.off.1.not ⟨_,h.pr⟩ zd (e▸k)
 exact h.py.off.1.not ⟨_,h.pr⟩ zd (e▸k)
end
structure ScnP (C:Nat) (x y:Sc) (r:uU):Prop where
 wf:RWf r
 sx:Sim C x r
 sy:Sim C y r
 wx:xF 100000 C x
 wy:xF 100000 C y
 C:4<=C/\C<=100000
def Scn (N0 s:Nat) (F:Nat->Prop) (w:ω):Prop:=∃ T C xb yb rb tb x y r Fx Fy,w.h s #[aF xb,aF yb,bH rb] 69/\sA N0 T C xb yb rb tb x y r Fx Fy w/\ScnP C x y r/\F=fp3 Fx Fy rb
def zid (N0 s:Nat) (F:Nat->Prop) (w w':ω):Prop:=∃ F',Scn N0 s F' w'/\lI F w w'/\∀ b,F' b->F b\/w.t<=b
structure mT (w0:ω) (F0:Nat->Prop) (N0 s:Nat) (T:dX) (C xb yb rb tb:Nat) (x y:Sc) (r:uU) (w:ω):Prop where
 gl:Gl w
 blk:w.h s #[aF xb,aF yb,bH rb] 69
 st:∃ Fx Fy,sA N0 T C xb yb rb tb x y r Fx Fy w/\lI F0 w0 w/\∀ b,fp3 Fx Fy rb b->F0 b\/w0.t<=b
section
variable {N0 s:Nat} {T:dX} {C xb yb rb tb:Nat} {x y x' y':Sc} {r r':uU} {F F0 Fx Fy Fx' Fy' Ch:Nat->Prop} {w0 w w':ω} {L:List TypeId}
theorem Scn.off (h:Scn N0 s F w):Off vol4 F w/\∀ b,F b->N0<=b:=by
 obtain⟨T,C,xb,yb,rb,tb,x,y,r,Fx,Fy,_,hm,_,rfl⟩:=h;exact hm.off
theorem Scn.chd (h:Scn N0 s F w) (hc:lI Ch w w') (ho:Off L Ch w) (hL:∀ t∈zdw,t∉L) (hd:∀ b,Ch b->¬ F b):Scn N0 s F w':=by
 obtain⟨T,C,xb,yb,rb,tb,x,y,r,Fx,Fy,hb,hm,hp,rfl⟩:=h;exact⟨T,C,xb,yb,rb,tb,x,y,r,Fx,Fy,rH hb hc ho (hL _ zd),hm.chd hc ho hL hd,hp,rfl⟩
theorem sA.size (h:sA N0 T C xb yb rb tb x y r Fx Fy w):N0<=w.t:=zT h.lo (Nat.le_of_lt (aA h.pr))
theorem mT.go (h:mT w0 F0 N0 s T C xb yb rb tb x y r w) (hN:jV<=N0) (hm:sA N0 T C xb yb rb tb x y r Fx Fy w) (h0:lI F0 w0 w) (hs:∀ b,fp3 Fx Fy rb b->F0 b\/w0.t<=b)
 (Pj:sA N0 T C xb yb rb tb x' y' r' Fx' Fy' w') (hc:lI (fp3 Fx Fy rb) w w') (xx:∀ b,fp3 Fx' Fy' rb b->fp3 Fx Fy rb b\/w.t<=b):mT w0 F0 N0 s T C xb yb rb tb x' y' r' w'/\oO w w':=by
 refine⟨⟨h.gl.below (hc.below hm.size hm.off.2) hN,rH h.blk hc hm.off.1 zd,Fx',Fy',Pj,h0.trans hc hs,λb k=> ?_⟩,hc.size,λg cs t ht hg=>rH hg hc hm.off.1 (by rcases ht with rfl|rfl<;>decide)⟩
 rcases xx b k with e|e
 . exact hs b e
 exact .inr (zT h0.size e)
theorem mT.stJ:StJ s xb yb rb (mT w0 F0 N0 s T C xb yb rb tb x y r):=
 ⟨λw w' h hb=>by
  obtain⟨Fx,Fy,hm,h0,hs⟩:=h.st;exact⟨h.gl.later hb,(hb.block _ (aA h.blk)).trans h.blk,Fx,Fy,hm.chd (lI.of_below hb) pD zd (λ_ k=>k.elim),h0.trans (lI.of_below (Ch:=F0) hb) (λb k=>.inl k),hs⟩,λw h=>h.blk,λw h=>h.gl⟩
theorem mT.nx (hN:jV<=N0) (hC:4<=C/\C<=100000) (hw:xF 100000 C x) {t:Tk} {x':Sc} (e:jA T C x=(t,k,x')):NxC xb (mT w0 F0 N0 s T C xb yb rb tb x y r) (mT w0 F0 N0 s T C xb yb rb tb x' y r) t k:=λw h=>by
 obtain⟨Fx,Fy,hm,h0,hs⟩:=h.st;obtain⟨_,_,_,_,R,_,_,hT,_⟩:=hm.ref;obtain⟨bs,hx,Hj⟩:=hm.px.next hT h.gl.tabs hC hw;rw[e] at Hj;refine⟨bs,hx,Hj.mono ?_⟩;rintro e w' ⟨rfl,hg⟩;obtain⟨F',h1,h2,h3⟩:=hm.stepX hg;exact⟨rfl,h.go hN hm h0 hs h1 h2 h3⟩
theorem mT.ny (hN:jV<=N0) (hC:4<=C/\C<=100000) (hw:xF 100000 C y) {t:Tk} {y':Sc} (e:jA T C y=(t,k,y')):NxC yb (mT w0 F0 N0 s T C xb yb rb tb x y r) (mT w0 F0 N0 s T C xb yb rb tb x y' r) t k:=λw h=>by
 obtain⟨Fx,Fy,hm,h0,hs⟩:=h.st;obtain⟨_,_,_,_,R,_,_,hT,_⟩:=hm.ref;obtain⟨bs,hx,Hj⟩:=hm.py.next hT h.gl.tabs hC hw;rw[e] at Hj;refine⟨bs,hx,Hj.mono ?_⟩;rintro e w' ⟨rfl,hg⟩;obtain⟨F',h1,h2,h3⟩:=hm.stepY hg;exact⟨rfl,h.go hN hm h0 hs h1 h2 h3⟩
theorem mT.nr (hN:jV<=N0) (hw:RWf r) {t:Tk} {r':uU} (e:gT T r=(t,k,r')):NrC rb (mT w0 F0 N0 s T C xb yb rb tb x y r) (mT w0 F0 N0 s T C xb yb rb tb x y r') t k:=λw h=>by
 obtain⟨Fx,Fy,hm,h0,hs⟩:=h.st;have Hj:=zfP hm.ref r hw hm.pr;rw[e] at Hj;refine Hj.mono ?_;rintro e w' ⟨rfl,hg,hr⟩;obtain⟨h1,h2⟩:=hm.stepR hg hr;exact⟨rfl,h.go hN hm h0 hs h1 h2 (λb k=>.inl k)⟩
theorem scn_next (h:Scn N0 s F w) (hG:Gl w) (hN:jV<=N0):Γ 12 #[bH s] w λe w'=>e=ρ (φ true)/\zid N0 s F w w':=by
 obtain⟨T,C,xb,yb,rb,tb,x,y,r,Fx,Fy,hb,hm,hp,rfl⟩:=h;obtain⟨_,_,_,_,R,_,_,hT,_⟩:=hm.ref;have q1:=zeM (T:=T) hT hp.C.1 hp.sx;have q2:=zeM (T:=T) hT hp.C.1 hp.sy;have q3:=zb0 (T:=T) hp.wf;have q4:=zaV (T:=T) hp.wx;have q5:=zaV (T:=T) hp.wy;obtain⟨t,k,r',hr⟩:∃ t k r',gT T r=(t,k,r'):=⟨_,_,_,rfl⟩;obtain⟨t1,k1,x',hx⟩:∃ t k x',jA T C x=(t,k,x'):=⟨_,_,_,rfl⟩;obtain⟨t2,k2,y',hy⟩:∃ t k x',jA T C y=(t,k,x'):=⟨_,_,_,rfl⟩;rw[hr] at q1 q2 q3;rw[hx] at q1 q4
 rw[hy] at q2 q5;dsimp only at q1 q2 q3 q4 q5;obtain⟨rfl,rfl,s1⟩:=q1;obtain⟨rfl,rfl,s2⟩:=q2;refine (snext_any (J0:=mT w (fp3 Fx Fy rb) N0 s T C xb yb rb tb x y r) mT.stJ mT.stJ mT.stJ mT.stJ (mT.nx hN hp.C hp.wx hx) (mT.ny hN hp.C hp.wy hy) (mT.nr hN hp.wf hr) w ⟨hG,hb,Fx,Fy,hm,lI.of_below iM,λb k=>.inl k⟩).mono ?_;rintro e w' ⟨rfl,h⟩;obtain⟨Fx',Fy',Pj,hc,hs⟩:=h.st;exact⟨rfl,fp3 Fx' Fy' rb,⟨T,C,xb,yb,rb,tb,x',y',r',Fx',Fy',h.blk,Pj,⟨q3,s1,s2,q4,q5,hp.C⟩,rfl⟩,hc,hs⟩
end
theorem zer:∀ l:List Pc,qN l 0=szL l
 | []=>rfl
 | p::r=>by
  have:=zer r;simp only[qN,szL,List.map_cons,List.sum_cons] at this ⊢;omega
theorem uM:∀ (l:List Pc) (k:Nat),(bO l 0 0 k).1.size<=szL l
 | [],k=>by simp[bO]
 | p::r,k=>by
  have:=uM r (0+(p.n-0).toNat);have:=uM r (k+(p.n-0).toNat);have:=kZ p.text 0 p.text.size bR;have e:szL (p::r)=p.text.size+szL r:=by simp[szL]
  rw[e,bO]
  repeat' split
  all_goals (try simp only[ByteArray.size_append,ByteArray.size_empty])
  all_goals omega
theorem mem_sz:∀ {l:List Pc} {p:Pc},p∈l->p.text.size<=szL l
 | q::l,p,h=>by
  have:szL (q::l)=q.text.size+szL l:=by simp[szL]
  rcases List.mem_cons.1 h with rfl|h
  . omega
  have:=mem_sz h
  omega
theorem zh8 (h:∀ p∈l,PcOk p) (hl:I l<1000000) (hs:szL l<1000000):vJ ⟨l,0,0⟩:=
 ⟨λp hp=>Nat.lt_of_le_of_lt (mem_sz hp) hs,λp hp=>by have:=(h p hp).1;omega,λp hp=>by have:=(h p hp).2;omega,hl,(show (0:Nat)<1000000 by decide),(show (0:Int)<=0/\(0:Int)<1000000000 by decide)⟩
theorem zhh (x:η):∀ n,n<=x.size->szL (lT x n)<=n/\I (lT x n)=n
 | 0,_=>⟨bR,rfl⟩
 | n+1,h=>by
  obtain⟨h1,h2⟩:=zhh x n zo;have:=kZ x n (n+1) h;unfold lT szL at*;rw[List.range_succ,List.map_append,List.map_append,List.sum_append,zLn];simp only[List.map_cons,List.map_nil,List.sum_cons,List.sum_nil,List.length_cons,List.length_nil];omega
theorem zgd (x:η) (why:Nat) (single:Bool):(∀ p∈uW x why single,PcOk p)/\I (uW x why single)<=x.size+2/\szL (uW x why single)<=x.size:=by
 obtain⟨h1,h2⟩:=zhh x x.size bR;have e1:∀ p∈uV why,PcOk p:=by
  intro p hp;unfold uV at hp
  repeat' split at hp
  all_goals simp at hp
  all_goals subst hp;exact⟨zd,zd⟩
 have:I (uV why)<=1/\szL (uV why)=0:=by
  unfold uV
  repeat' split
  all_goals simp[szL]
 have e3:∀ a b:List Pc,szL (a++b)=szL a+szL b:=λa b=>by simp[szL]
 unfold uW;rw[e3,zLn];cases single with
 | true=>
  rw[zP rfl];refine⟨λp hp=> ?_,zo,zo⟩
  rcases List.mem_append.1 hp with hp|hp
  . obtain⟨i,_,rfl⟩:=List.mem_map.1 hp
    exact zzDq
  . exact e1 p hp
 | false=>
  rw[zN zd];have:szL [(⟨x,0,0⟩:Pc)]=x.size:=by simp[szL]
  refine⟨λp hp=> ?_,zx,zo⟩
  rcases List.mem_append.1 hp with hp|hp
  . rw[zMs] at hp
    subst hp;exact zzDq
  exact e1 p hp
theorem surT_of {D:TD} {m R:Nat} (hb:BndH D T n m) (hw:yV T R) (hc:(55296:Int)∈T.cU):SurT T:=λset k h=>by
 obtain⟨_,w2,_⟩:=hb.wid set k h;have hv:0<=χ T.cU k 0/\(χ T.cU k 0<55296\/57344<=χ T.cU k 0):=by
  unfold widO iH at w2;generalize T.cU.getD k 0=c at*
  grind
 have hk:k<I T.cU:=by
  rcases zLg k (I T.cU) with h1|h1
  . exact h1
  exfalso
  have e:χ (χ T.gO set []) k (-1)= -1:=by
   rcases zLg set (I T.gO) with h2|h2
   . have:=hw.rows _ (List.getElem_mem h2)
     grind
   grind
  omega
 have ht:hiT T k<=1114111:=by
  unfold hiT;split
  . rename_i h1
    have:=hw.top _ (List.getElem_mem h1)
    grind
  omega
 refine⟨?_,hv.1,ht⟩
 rcases hv.2 with h1|h1
 . left
   obtain⟨j,hj,e⟩:=List.getElem_of_mem hc;have hr:=List.pairwise_iff_getElem.1 hw.rise;have Oh:k<j:=by
    rcases zLg k j with h2|h2
    . exact h2
    rcases Nat.eq_or_lt_of_le h2 with h3|h3
    . grind
    have:=hr j k hj hk h3
    grind
   have:χ T.cU (k+1) 0<=55296:=by
    rcases Nat.eq_or_lt_of_le (show k+1<=j from Oh) with h3|h3
    . grind
    have:=hr (k+1) j zo hj h3
    grind
   unfold hiT;rw[zP zo];omega
 exact .inr h1
theorem scnP_new {l2:List Pc} (hC:4<=C/\C<=100000) (h1:szL l<=100000) (h2:szL l2<=100000) (he:bO l2 0 0 0=bO l 0 0 0):ScnP C (x0 ⟨l,0,0⟩) (x0 ⟨l2,0,0⟩) ⟨(bO l 0 0 0).1,(bO l 0 0 0).2,C,0,1,1,0⟩:=by
 have:=uM l 0;have Ha:(⟨(bO l 0 0 0).1,(bO l 0 0 0).2,C,0,1,1,0⟩:uU).rest=(bO l 0 0 0).1:=by
  unfold uU.rest;rw[ByteArray.extract_zero_size]
 have hs:∀ l':List Pc,bO l' 0 0 0=bO l 0 0 0->Sim C (x0 ⟨l',0,0⟩) ⟨(bO l 0 0 0).1,(bO l 0 0 0).2,C,0,1,1,0⟩:=λl' e=>by
  refine⟨rfl,rfl,rfl,rfl,rfl,rC,rC,λ_=> ?_⟩;rw[Ha];show ((⟨#[]⟩:η)++(bO l' 0 0 0).1,(bO l' 0 0 0).2)=_;rw[e];congr 1
 refine⟨⟨uL _ _ _ _,rC,by show (bO l 0 0 0).1.size<=100000;omega,hC,(by decide:(1:Int)<=1/\(1:Int)<=((0:Nat):Int)+1),(by decide:(1:Int)<=1/\(1:Int)<=((0:Nat):Int)+1)⟩,hs l rfl,hs l2 he,x0_wf ?_,x0_wf ?_,hC⟩
 . show qN l 0<=100000
   rw[zer];exact h1
 show qN l2 0<=100000
 rw[zer];exact h2
theorem scP_of {BT:Nat} {x:Sc} (h:Rdy N BT T C xb x ν w) (h0:N0<=N):∃ F,ScP N0 T C xb x F w:=by
 obtain⟨B,bs,bt,sb,bc,cc,br,cr,bg,cg,bv,h⟩:=h;exact⟨fp bs sb bv,N,BT,B,bs,bt,sb,bc,cc,br,cr,bg,cg,bv,h,h0,rfl⟩
theorem ScP.lower {N1:Nat} {x:Sc} {F:Nat->Prop} (h:ScP N0 T C xb x F w) (h0:N1<=N0):ScP N1 T C xb x F w:=by
 obtain⟨N,BT,B,bs,bt,sb,bc,cc,br,cr,bg,cg,bv,h,h1,h2⟩:=h;exact⟨N,BT,B,bs,bt,sb,bc,cc,br,cr,bg,cg,bv,h,zT h0 h1,h2⟩
theorem scn_new {yb rb s N1:Nat} {l2:List Pc} {Fx Fy:Nat->Prop} {w2:ω} (hx:ScP N0 T C xb (x0 ⟨l,0,0⟩) Fx w) (hb:w.u w2) (hy:ScP N1 T C yb (x0 ⟨l2,0,0⟩) Fy w2) (h1:w.t<=N1) (h0:N0<=w.t)
 (hr:rD w2 rb tb ⟨(bO l 0 0 0).1,(bO l 0 0 0).2,C,0,1,1,0⟩) (Qh:N0<=rb) (hT:RefT w2 tb T) (hs:w2.h s #[aF xb,aF yb,bH rb] 69) (hp:ScnP C (x0 ⟨l,0,0⟩) (x0 ⟨l2,0,0⟩) ⟨(bO l 0 0 0).1,(bO l 0 0 0).2,C,0,1,1,0⟩):∃ F,Scn N0 s F w2:=
 ⟨_,T,C,xb,yb,rb,tb,_,_,_,Fx,Fy,hs,⟨hx.chd (lI.of_below hb) pD zd (λ_ k=>k.elim),hy.lower zo,hr,hT,λb k1 k2=>by
  have:=hx.off.1.lt k1;have:=hy.off.2 b k2;omega,Qh⟩,hp,rfl⟩
def ScdO (w:ω) (e:Ending) (w':ω):Prop:=w.u w'/\(e=ρ (ϕ #[Φ none,φ true])\/∃ s F,e=ρ (ϕ #[bH s,φ true])/\Scn w.t s F w')
def CapK (c:Int) (k:Nat):Prop:=(k=9/\(c<4\/100000<c))\/(k=0/\∃ C:Nat,c=C/\4<=C/\C<=100000)
theorem capK (c:Int):∃ k,CapK c k:=by
 by_cases h:c<4\/100000<c
 . exact⟨9,.inl ⟨rfl,h⟩⟩
 exact⟨0,.inr ⟨rfl,c.toNat,zo,zo,zo⟩⟩
theorem scan_or {c:Int} {BT cb bc cc br cr bg cg sb:Nat} (hk:CapK c k) (hS:oP w.t w sb ⟨l,0,0⟩) (Hq:vJ ⟨l,0,0⟩) (hc:w.h cb #[aF tb] 97) (ht:gM BT w tb T bc cc br cr bg cg) (hG:jV<=BT) (hN:BT<=N/\N<=sb) (hB:N<=w.t):
 Γ 56 #[aF cb,aF sb,ι c] w λe w'=>∃ p,e=ρ (ϕ #[Φ p,fN k])/\w.u w'/\((k=9/\p=none)\/∃ xb F,p=some ⟨xb,0,none⟩/\k=0/\ScP N T c.toNat xb (x0 ⟨l,0,0⟩) F w'):=by
 rcases hk with⟨rfl,h⟩|⟨rfl,C,rfl,h4,hm⟩
 . refine (zfN cb sb c h w).mono ?_
   exact zzDZ
 refine (zeF w.t cb tb sb C ⟨l,0,0⟩ w hc hS Hq bR h4 hm).mono ?_
 intro e w' ho;obtain⟨xb,rfl,hr,hb,_⟩:=rdy_scan ho ht hG hN hB;obtain⟨F,hF⟩:=scP_of hr bR;exact⟨_,rfl,hb,.inr ⟨xb,F,rfl,rfl,hF⟩⟩
theorem ref_or {c:Int} {why:Nat} {x:η} (hk:CapK c k) (w:ω):
 Γ 59 #[bH tb,γ x,ι why,ι c] w λe w'=>∃ p,e=ρ (ϕ #[Φ p,ι k])/\w.u w'/\((k=9/\p=none)\/p=some ⟨w.t,0,none⟩/\k=0/\rD w' w.t tb ⟨x,why,c.toNat,0,1,1,0⟩):=by
 rcases hk with⟨rfl,h⟩|⟨rfl,C,rfl,h4,hm⟩
 . refine (newRef_no tb why c x h w).mono ?_
   exact zzDZ
 refine (ziN tb why C x h4 hm w).mono ?_
 rintro e w' ⟨rfl,hb,hr⟩;exact⟨_,rfl,hb,.inr ⟨rfl,rfl,hr⟩⟩
theorem zg2 (b:Nat) (l:List Pc) (v:Value) (c:Int) (single:Bool) (w:ω) (hb:rY w b) (Hb:w.r 47 3 v (I l) (dY l)) (hl:I l<=20000) (Hq:∀ p∈l,PcOk p) (Hv:szL l<=20000) (hG:Gl w):
 Γ 28 #[bH b,v,ι c,φ single] w (ScdO w):=by
 obtain⟨k,hk⟩:=capK c;obtain⟨T,D,S,R,cb,tb,bc,cc,br,cr,bg,cg,rb,h1,h2,h3,h4,h5⟩:=hb;have c0:=zq 0 h1;have c1:=zq 1 h1;have lb:=aA h1;have HC:=Θ c0 c1;have Hw:=zh Hb;have HG:=zh hG;have HK:=zh hk;have Vl:=Θ h2 h3;have Ai:=zh (show RefT w rb T from⟨D,S,_,_,R,h4,h5.bnd,h5.wf,surT_of h5.bnd h5.wf h5.cut⟩)
 have QO:=zh (newSrc2 l w v zo Hb);obtain⟨g1,g2,g3⟩:=zgd (bO l 0 0 0).1 (bO l 0 0 0).2 single;have E5:=uM l 0;have uw:=zh (zh8 Hq zo zo);have Wp:=zh (zh8 g1 zo zo);have FT:=zh (λC (h:4<=C/\C<=100000)=>scnP_new (l:=l) h zo (zT g3 zo) (ze2 (yJ l 0) single));have C8:=zh (λw2 (hr:w2.r 47 3 v (I l) (dY l))=>ziD l single w2 v hr zo Hq zo zo)
 have Qa:=zh (λw2 (hr:w2.r 47 3 v (I l) (dY l))=>end_any l w2 v hr zo Hq zo);have XC:zH (I (uW (bO l 0 0 0).1 (bO l 0 0 0).2 single)<1000000):=zh zo;have Wo:=zh (λ(s xb yb r:Nat) (w1 w2:ω) (C N1:Nat) (Fx Fy:Nat->Prop) (hC:4<=C/\C<=100000) hx hb hy h1 h0 hr Qh hT hs=>scn_new (s:=s) (xb:=xb) (yb:=yb) (rb:=r) (tb:=rb) (T:=T) (C:=C) (N0:=w.t) (N1:=N1) (Fx:=Fx) (Fy:=Fy) (w:=w1) (w2:=w2) hx hb hy h1 h0 hr Qh hT hs (FT.o C hC))
 obtain⟨ao,cap,hv⟩:=bJ Hb;rw[hv] at Hw QO C8 Qa ⊢;clear FT;generalize uW (bO l 0 0 0).1 (bO l 0 0 0).2 single=L2 at*;generalize (bO l 0 0 0).1=X at*;generalize (bO l 0 0 0).2=why at*;have HNR:=zh (λw=>ref_or (tb:=rb) (why:=why) (x:=X) hk w);clear h1 h2 h3 h4 h5 Hb hl Hq Hv hG hv E5 g1 g2 g3 hk;obtain⟨ev,tY⟩:=zE (fN k);have Ab:=zh tY;clear tY;unfold bH aF at*;go_in
 go_upto_region 2 with (go_at_call 55;refine QO.o.mono ?_;rintro e w1 ⟨sb,rfl,Yk,QR,Hk,js⟩;have H1:=Ψ Hk js Yk QR;clear Hk js Yk QR)
 clear c0 c1;have c0:=(aG H1.o.1 b.a lb).trans HC.o.1;have YE:=zh (scan_or (N:=w.t) HK.o H1.o.2.2.1 uw.o ((H1.o.1.block _ (aA Vl.o.1)).trans Vl.o.1) (Vl.o.2.below H1.o.1) HG.o.size ⟨bR,H1.o.2.2.2⟩ H1.o.1.size);rw[<-Ab.o] at YE;unfold aF at YE;go_upto_region 3 with (go_at_call 56;refine YE.o.mono ?_;rintro e w2 ⟨p,rfl,Hm,yf⟩;have H2:=Θ Hm yf;clear Hm yf)
 have Hm:=bI H1.o.1 H2.o.1 H1.o.1.size;have ws:=zh (C8.o _ (aN Hw.o Hm));have QV:=zh Hm;clear C8 c0 Hm;go_upto_region 4 with (first|(go_at_call 57;refine ws.o.mono ?_;rintro e w3 ⟨v3,rfl,yo⟩;have H3:=zh yo;clear yo)|(have H0:=newSrc2 _ _ _ XC.o H3.o.row;go_at_call 55;refine H0.mono ?_;clear H0;rintro e w4 ⟨qb,rfl,Tc,hn4,qu,Cr⟩;have H4:=Ψ qu Cr Tc hn4;clear qu Cr Tc hn4;unfold aF))
 have dz:=bI H3.o.bel H4.o.1 H3.o.bel.size;have qu:=bI QV.o dz QV.o.size;have c0:=(aG qu b.a lb).trans HC.o.1;have vk:=zh (scan_or (N:=w2.t) HK.o H4.o.2.2.1 Wp.o ((qu.block _ (aA Vl.o.1)).trans Vl.o.1) (Vl.o.2.below qu) HG.o.size ⟨QV.o.size,zT H3.o.bel.size H4.o.2.2.2⟩ dz.size);rw[<-Ab.o] at vk;unfold aF at vk;have yg:=Θ qu dz;clear qu dz
 go_upto_region 5 with (go_at_call 56;refine vk.o.mono ?_;rintro e w5 ⟨q,rfl,Qn,No⟩;have H5:=Θ Qn No;clear Qn No)
 have Qn:=bI yg.o.1 H5.o.1 yg.o.1.size;have wK:=zh (Qa.o _ (aN Hw.o Qn));have Y7:=zh Qn;clear Qn c0 Qa;go_upto_region 6 with (go_at_call 58;refine wK.o.mono ?_;rintro e w6 ⟨rfl,QT⟩;have H6:=zh QT;clear QT)
 have QT:=bI Y7.o H6.o Y7.o.size;have c1:=(aG QT (b.p 1) lb).trans HC.o.2;have Qs:=zh QT;clear QT;go_upto_region 7 with (go_at_call 59;refine (HNR.o _).mono ?_;rintro e w7 ⟨r,rfl,yv,T6⟩;have H7:=Θ yv T6;clear yv T6)
 have yv:=bI Qs.o H7.o.1 Qs.o.size;have Gi:=bI H6.o H7.o.1 H6.o.size;have Gh:=bI H5.o.1 Gi H5.o.1.size;have Gf:=bI yg.o.2 Gh yg.o.2.size;have Mz:=bI H2.o.1 Gf H2.o.1.size;have p1:=(aG Mz (sb.p 3) (lY H1.o.2.1)).trans H1.o.2.1;have p2:=(aG Gh (qb.p 3) (lY H4.o.2.1)).trans H4.o.2.1;have HP:=Θ p1 p2;have HT:=zh (λW (h:w7.u W)=>told_k k W (HG.o.later (bI yv h yv.size)))
 rw[<-Ab.o] at HT;have yc:=Λ yv Gf Gi;clear yv Gi Gh Gf Mz p1 p2 c1;go_upto_region 8 with (go_at_call 19;refine (HT.o _ iM).mono ?_;rintro e w8 ⟨rfl,Yf⟩;have H8:=zh Yf;clear Yf)
 go_upto_region 9 with (go_at_call 19;refine (HT.o _ H8.o).mono ?_;rintro e w9 ⟨rfl,XN⟩;have H9:=zh (bI H8.o XN H8.o.size);clear XN)
 have:=(aG H9.o (sb.p 3) (lY HP.o.1)).trans HP.o.1;have:=(aG H9.o (qb.p 3) (lY HP.o.2)).trans HP.o.2;have KO:=bI yc.o.1 H9.o yc.o.1.size
 rcases HK.o with⟨rfl,Vn⟩|⟨rfl,C,rfl,hC⟩
 . obtain rfl:p=none:=by rcases H2.o.2 with⟨_,e⟩|⟨_,_,_,e,_⟩<;>grind
   obtain rfl:q=none:=by rcases H5.o.2 with⟨_,e⟩|⟨_,_,_,e,_⟩<;>grind
   have JL:=zh KO;clear KO Vn;go_wp2;refine bodyPost_ret (v:=ϕ #[Φ none,φ true]) (by simp[results,results28,go_sem]) rfl ?_;exact⟨JL.o,.inl rfl⟩
 obtain⟨xb,Fx,rfl,hx⟩:∃ xb Fx,p=some ⟨xb,0,none⟩/\ScP w.t T C xb (x0 ⟨l,0,0⟩) Fx w2:=by
  rcases H2.o.2 with⟨e,_⟩|⟨xb,F,e,_,h⟩
  . omega
  exact⟨xb,F,e,by rwa [Int.toNat_natCast] at h⟩
 obtain⟨yb,Fy,rfl,hy⟩:∃ xb Fx,q=some ⟨xb,0,none⟩/\ScP w2.t T C xb (x0 ⟨L2,0,0⟩) Fx w5:=by
  rcases H5.o.2 with⟨e,_⟩|⟨xb,F,e,_,h⟩
  . omega
  exact⟨xb,F,e,by rwa [Int.toNat_natCast] at h⟩
 obtain⟨rfl,hr⟩:r=some ⟨w6.t,0,none⟩/\rD w7 w6.t rb ⟨X,why,C,0,1,1,0⟩:=by rcases H7.o.2 with⟨e,_⟩|⟨e,_,h⟩<;>grind
 have HX:=Λ hx hy hr;have JL:=zh KO;clear KO hx hy hr;go_wp2;refine bodyPost_ret (v:=ϕ #[bH w9.t,φ true]) (by simp[results,results28,go_sem,bH]) rfl ?_;have YV:=(zBr w9.t w9).alloc bR (Ω #[aF xb,aF yb,bH w6.t] 69);have Gj:=bI H9.o YV H9.o.size;have ZH:=bI yc.o.2.1 Gj yc.o.2.1.size;have ZI:=bI yc.o.2.2 Gj yc.o.2.2.size;have Mx:=bI JL.o YV JL.o.size
 obtain⟨F,hF⟩:=Wo.o w9.t xb yb w6.t w2 _ C w2.t Fx Fy hC HX.o.1 ZH (HX.o.2.1.chd (lI.of_below ZI) pD zd (λ_ k=>k.elim)) bR QV.o.size ((Gj.block _ (aA HX.o.2.2)).trans HX.o.2.2) Qs.o.size (Ai.o.below Mx) (bA _ _ _ rfl);exact⟨Mx,.inr ⟨_,F,rfl,hF⟩⟩
def Scns (N:Nat) (ss:ο) (w:ω):Prop:=∃ F:Nat->Nat->Prop,(∀ i s,ss[i]?=some s->Scn N s (F i) w)/\∀ i j,i<I ss->j<I ss->i≠j->∀ b,F i b->¬ F j b
structure Inv (N:Nat) (w:ω) (wb:Nat) (X:Wld):Prop where
 wld:∃ vR vP vT vS,lO w wb X vR vP vT vS/\(∀ g,β vT=some g->N<=g)/\∀ g,β vS=some g->N<=g
 both:∀ b∈X.ts,rY w b
 low:N<=wb
 scn:Scns N X.ss w
 pcs:∀ p∈X.pcs,PcOk p
def Wld.cost (X:Wld):Nat:=I X.sT+I X.pcs+I X.ts+I X.ss+szL X.pcs
abbrev wldTy:List TypeId:=[35,9,47,37,43]
theorem elemTs:eO prog 32 37 1 8:=eO.of (z:=Φ none) underlying32 zK rfl zd
theorem elemSs:eO prog 33 43 1 8:=eO.of (z:=Φ none) underlying33 zK rfl zd
section
variable {N N2 wb s g i b:Nat} {w w' w2:ω} {X:Wld} {ss:ο} {vR vP vT vS v3:Value} {Ch F:Nat->Prop} {L:List TypeId} {ob:Obj}
theorem lO.chd (h:lO w wb X vR vP vT vS) (hc:lI Ch w w') (ho:Off L Ch w) (hL:∀ t∈wldTy,t∉L):lO w' wb X vR vP vT vS:=
 ⟨rH h.blk hc ho (hL _ zd),eJ h.rr hc ho (hL _ zd),eJ h.rp hc ho (hL _ zd),eJ h.rt hc ho (hL _ zd),eJ h.rs hc ho (hL _ zd),h.tn,h.sn⟩
theorem Scns.chd (h:Scns N ss w) (hc:lI Ch w w') (ho:Off L Ch w) (hL:∀ t∈zdw,t∉L) (h4:∀ t∈vol4,t∉L):Scns N ss w':=by
 obtain⟨F,h1,h2⟩:=h;refine⟨F,λi s hi=>(h1 i s hi).chd hc ho hL λb k e=> ?_,h2⟩;obtain⟨t,ht,hy⟩:=(h1 i s hi).off.1 b e;exact ho.not hy (h4 t ht) k
theorem Scn.lower (h:Scn N2 s F w) (h0:N<=N2):Scn N s F w:=by
 obtain⟨T,C,xb,yb,rb,tb,x,y,r,Fx,Fy,hb,hm,hp,rfl⟩:=h;have hl:∀ {xb x F},ScP N2 T C xb x F w->ScP N T C xb x F w:=λh=>by
  obtain⟨N',BT,B,bs,bt,sb,bc,cc,br,cr,bg,cg,bv,h,h1,h2⟩:=h;exact⟨N',BT,B,bs,bt,sb,bc,cc,br,cr,bg,cg,bv,h,zT h0 h1,h2⟩
 exact⟨T,C,xb,yb,rb,tb,x,y,r,Fx,Fy,hb,⟨hl hm.px,hl hm.py,hm.pr,hm.ref,hm.dis,zT h0 hm.lo⟩,hp,rfl⟩
theorem Scns.push (h:Scns N ss w) (hb:w.u w2) (hn:Scn w.t s F w2) (h0:N<=w.t):Scns N (ss++[s]) w2:=by
 obtain⟨G,h1,h2⟩:=h;have Hf:∀ i b,i<I ss->G i b->b<w.t:=λi b hi k=>(h1 i _ (zLe hi)).off.1.lt k;have Br:∀ b,F b->w.t<=b:=hn.off.2;refine⟨λi=>if i=I ss then F else G i,λi s' hi=> ?_,λi j hi hj qg b k1 k2=> ?_⟩
 . dsimp only
   rcases zLg i (I ss) with hl|hl
   . rw[zGl hl] at hi
     rw[zN zo];exact (h1 i s' hi).chd (lI.of_below hb) pD zd (λ_ k=>k.elim)
   rw[zGr hl] at hi
   have Bs:i-I ss=0:=by
    rcases Nat.eq_zero_or_pos (i-I ss) with e|e
    . exact e
    rw[zGn zx] at hi
    cases hi
   rw[Bs] at hi;cases hi;rw[zP zo];exact hn.lower h0
 rw[zLn,List.length_singleton] at hi hj
 split at k1<;>split at k2
 . omega
 . have:=Hf j b zo k2
   have:=Br b k1;omega
 . have:=Hf i b zo k1
   have:=Br b k2;omega
 exact h2 i j zo zo qg b k1 k2
theorem Inv.at (h:Inv N w wb X) (hi:X.ss[i]?=some s):∃ F,Scn N s F w/\∀ w',zid N s F w w'->Inv N w' wb X/\Below N w w':=by
 obtain⟨⟨vR,vP,vT,vS,hW,hT,hS⟩,hB,VP,⟨G,h1,h2⟩,ij⟩:=h;have hs:=h1 i s hi;have YP:=pO hi;refine⟨G i,hs,λw' hg=> ?_⟩;obtain⟨F',xx,hc,hn⟩:=hg;have ho:=hs.off.1;refine⟨⟨⟨vR,vP,vT,vS,hW.chd hc ho zd,hT,hS⟩,λb hb=>(hB b hb).chd hc ho zd,VP,⟨λj=>if j=i then F' else G j,λj s' hj=> ?_,λj k hj hk qg b k1 k2=> ?_⟩,ij⟩,hc.below (zT VP (Nat.le_of_lt hW.lt)) hs.off.2⟩
 . dsimp only
   by_cases e:j=i
   . subst e
     rw[hi] at hj;cases hj;rw[zP rfl];exact xx
   rw[zN e]
   exact (h1 j s' hj).chd hc ho zd λb k1 k2=>h2 i j YP (pO hj) (Ne.symm e) b k1 k2
 have key:∀ j,j<I X.ss->j≠i->∀ b,F' b->¬ G j b:=λj hj hji b k1 k2=>by
  rcases hn b k1 with e|e
  . exact h2 i j YP hj (Ne.symm hji) b e k2
  have:=(h1 j _ (zLe hj)).off.1.lt k2
  omega
 dsimp only at k1 k2;split at k1<;>split at k2
 . omega
 . exact key k hk zo b k1 k2
 . exact key j hj zo b k2 k1
 exact h2 j k hj hk qg b k1 k2
theorem Inv.own {Y:Wld} (h:Inv N w wb X) (hc:lI Ch w w') (ho:Off [35,37,43] Ch w) (ht:Y.ts=X.ts) (hs:Y.ss=X.ss) (hp:∀ p∈Y.pcs,PcOk p) {vR vP vT vS:Value} (hW:lO w' wb Y vR vP vT vS) (hT:(∀ g,β vT=some g->N<=g)/\∀ g,β vS=some g->N<=g):Inv N w' wb Y:=
 ⟨⟨vR,vP,vT,vS,hW,hT⟩,λb hb=>(h.both b (ht▸hb)).chd hc ho zd,h.low,by rw[hs];exact h.scn.chd hc ho zd zd,hp⟩
theorem Inv.below (h:Inv N w wb X) (hb:w.u w'):Inv N w' wb X:=by
 obtain⟨vR,vP,vT,vS,hW,hT⟩:=h.wld;exact⟨⟨vR,vP,vT,vS,hW.below hb,hT⟩,λb hm=>(h.both b hm).below hb,h.low,h.scn.chd (lI.of_below hb) pD zd zd,h.pcs⟩
theorem Inv.size (h:Inv N w wb X):N<=w.t:=by
 obtain⟨vR,vP,vT,vS,hW,hT⟩:=h.wld;exact zT h.low (Nat.le_of_lt hW.lt)
theorem app_chd {u:Value} (hb:Ty w wb 35) (hr:w.r e 1 u n xs) (hg:(κ w ob).grownBy w2 (β u)):lI (λb=>b=wb\/β u=some b) w (ς w2 (wb.p k) v3)/\Off [35,e] (λb=>b=wb\/β u=some b) w:=by
 have h1:lI (λb=>b=wb\/β u=some b) w (κ w ob):=lI.of_below (Ξ w ob);have h2:lI (λb=>b=wb\/β u=some b) (κ w ob) w2:=lI.of_grown hg λb k=>.inr k;have h3:lI (λb=>b=wb\/β u=some b) w2 (ς w2 (wb.p k) v3):=lI.of_grown (bQ _ wb k _) λb k=>.inl (by cases k;rfl);refine⟨(h1.trans h2 λb k=>.inl k).trans h3 λb k=>.inl k,?_⟩;rintro b (rfl|k)
 . exact⟨_,List.mem_cons_self,hb⟩
 exact⟨e,zs,dE hr k⟩
theorem zen {u:Value} {o:Obj} (hb:w.heap[wb]?=some o) (ht:Ty w wb 35) (he:e≠35) (hr:w.r e 1 u n xs) (hg:(κ w ob).grownBy w2 (β u)):w2.heap[wb]?=some o:=by
 rw[hg.block wb (by have:=aA hb;simp;omega) λk=> ?_]
 . exact (bS _ _ _ (aA hb)).trans hb
 obtain⟨cs,h1⟩:=dE hr k.symm
 obtain⟨cs2,h2⟩:=ht;exact he (mW h1 h2)
theorem Inv.putT (h:Inv N w wb X) (hW:lO w wb X vR vP vT vS) (hT:(∀ g,β vT=some g->N<=g)/\∀ g,β vS=some g->N<=g) (hb:rY w b) (Hb:w2.r 37 1 v3 (I X.ts+1) (X.ts.map bH++[bH b])) (hg:(κ w ob).grownBy w2 (β vT)) (qh:β v3=β vT\/β v3=some (κ w ob).heap.size):
 Inv N (ς w2 (wb.p 2) v3) wb {X with ts:=X.ts++[b]}/\Below N w (ς w2 (wb.p 2) v3):=by
 obtain⟨hc,ho⟩:=app_chd (k:=2) (v3:=v3) ⟨_,hW.blk⟩ hW.rt hg;have hk:=zen hW.blk ⟨_,hW.blk⟩ zd hW.rt hg;have hs:lI (· =wb) w2 (ς w2 (wb.p 2) v3):=lI.of_grown (bQ _ wb 2 _) λb k=>by cases k;rfl
 refine⟨⟨⟨vR,vP,v3,vS,⟨by rw[aB _ wb 2 _ _ _ _ hk];rfl,eJ hW.rr hc ho zd,eJ hW.rp hc ho zd,eJ (by simpa using Hb) hs (zcB ⟨_,hk⟩) zd,eJ hW.rs hc ho zd,λe=>by simp at e,hW.sn⟩,λg e=> ?_,hT.2⟩,λc hm=> ?_,h.low,h.scn.chd hc ho zd zd,h.pcs⟩,hc.below h.size ?_⟩
 . rcases qh with k|k
   . exact hT.1 g (k▸e)
   have:=h.size
   rw[k] at e;cases e;simp;omega
 . rcases List.mem_append.1 hm with k|k
   . exact (h.both c k).chd hc ho zd
   rw[zMs] at k
   subst k;exact hb.chd hc ho zd
 rintro b (rfl|k)
 . exact h.low
 exact hT.1 b k
theorem Inv.putS {w1:ω} (h:Inv N w1 wb X) (Hk:w1.u w) (hW:lO w wb X vR vP vT vS) (hT:(∀ g,β vT=some g->N<=g)/\∀ g,β vS=some g->N<=g) (hn:Scn w1.t s F w) (Hb:w2.r 43 1 v3 (I X.ss+1) (X.ss.map bH++[bH s])) (hg:(κ w ob).grownBy w2 (β vS)) (qh:β v3=β vS\/β v3=some (κ w ob).heap.size):
 Inv N (ς w2 (wb.p 3) v3) wb {X with ss:=X.ss++[s]}/\Below N w (ς w2 (wb.p 3) v3):=by
 have h':=h.below Hk;obtain⟨hc,ho⟩:=app_chd (k:=3) (v3:=v3) ⟨_,hW.blk⟩ hW.rs hg;have hk:=zen hW.blk ⟨_,hW.blk⟩ zd hW.rs hg;have hs:lI (· =wb) w2 (ς w2 (wb.p 3) v3):=lI.of_grown (bQ _ wb 3 _) λb k=>by cases k;rfl
 refine⟨⟨⟨vR,vP,vT,v3,⟨by rw[aB _ wb 3 _ _ _ _ hk];rfl,eJ hW.rr hc ho zd,eJ hW.rp hc ho zd,eJ hW.rt hc ho zd,eJ (by simpa using Hb) hs (zcB ⟨_,hk⟩) zd,hW.tn,λe=>by simp at e⟩,hT.1,λg e=> ?_⟩,λc hm=>(h'.both c hm).chd hc ho zd,h.low,(h.scn.push Hk hn h.size).chd hc ho zd zd,h.pcs⟩,hc.below h'.size ?_⟩
 . rcases qh with k|k
   . exact hT.2 g (k▸e)
   have:=h'.size
   rw[k] at e;cases e;simp;omega
 rintro b (rfl|k)
 . exact h.low
 exact hT.2 b k
theorem zdD {o:sO} {Y:Wld} (h:ownP o X=some Y):Y.ts=X.ts/\Y.ss=X.ss/\Y.cost<=X.cost+1+o.s.size/\((∀ p∈X.pcs,PcOk p)->∀ p∈Y.pcs,PcOk p):=by
 unfold ownP at h
 repeat' split at h
 all_goals cases h
 . exact⟨rfl,rfl,by simp[Wld.cost];omega,id⟩
 . exact⟨rfl,rfl,by simp[Wld.cost];omega,id⟩
 . refine⟨rfl,rfl,by simp[Wld.cost,szL];omega,λhp p hm=> ?_⟩
   rcases List.mem_append.1 hm with k|k
   . exact hp p k
   rw[zMs] at k
   subst k;have:pE o.a 12<12:=Nat.mod_lt _ zd;have:pE o.b 6<6:=Nat.mod_lt _ zd;exact⟨by dsimp only;omega,by dsimp only;omega⟩
 exact⟨rfl,rfl,by simp[Wld.cost,szL];omega,λ_ p hm=>by simp at hm⟩
end
def zc5 (N wb:Nat) (X:Wld) (d:Nat) (w:ω) (e:Ending) (w':ω):Prop:=e=ρ (φ true)/\Below N w w'/\∃ Y,Inv N w' wb Y/\Y.cost<=X.cost+d
theorem zc5.same {wb:Nat} {X:Wld} {d:Nat} (hI:Inv N w' wb X) (hb:Below N w w'):zc5 N wb X d w (ρ (φ true)) w':=⟨rfl,hb,X,hI,zo⟩
theorem onT_any (o:sO) (ho:o.Ok) (hk:o.kind≠6/\o.kind≠7) (N:Nat) (w:ω) (wb:Nat) (X:Wld) (hI:Inv N w wb X) (hG:Gl w) (hl:X.cost<=20000):
 Γ 14 #[bH wb,.agg o.cells] w (zc5 N wb X 1 w):=by
 obtain⟨kind,x,a,b,s⟩:=o;have Ph:¬ kind=6:=hk.1;have RX:¬ kind=7:=hk.2;obtain⟨vR,vP,vT,vS,h,hTS⟩:=hI.wld;obtain⟨aT,cT,l9⟩:=bJ h.rt;have b2:=zq 2 h.blk;rw[l9] at b2;have lb:=aA h.blk;have YV:=(zBr w.t w).alloc bR (Ω #[ι kind,ι x,ι a,ι b,γ s] 27);have JK:=zh YV;have HH:=zh h.rt;have HI:=zh hI
 have HW:=Θ h hTS;have HO:=zh ho;have HVT:=zh l9;have Kk:=zh hl;have HG:=zh hG;have Hf:I X.ts<=20000:=by unfold Wld.cost at hl;omega
 have yk:=zh Hf;unfold bH sO.cells;clear h YV hk ho l9 hl hI hG hTS Hf;by_cases hn:I X.ts=0
 . have hz:((I X.ts:Int)==0)=true:=by rw[hn];rfl
   clear hn;go_in;go_wp2;go_ret;exact zc5.same (HI.o.below JK.o) (JK.o.mono HI.o.size)
 have V9:0<I X.ts:=zo
 have hz:((I X.ts:Int)==0)=false:=beq_eq_false_iff_ne.2 zo;have Qx:=zh (λw=>za0 x (I X.ts) HO.o.x V9 (by have:=yk.o;omega) w);have hj:pE x (I X.ts)<I X.ts:=Nat.mod_lt _ V9;generalize pE x (I X.ts)=j at Qx hj;obtain⟨tb,NF⟩:=zG X.ts j hj;have Hb:=HH.o;obtain⟨g,rfl⟩:∃ g,aT=some ⟨g,0,none⟩:=by
  rcases aY Hb with⟨e,h0⟩|⟨g,cap,e,_⟩
  . omega
  rw[HVT.o] at e
  grind
 rw[HVT.o] at Hb;have cg:=aJ Hb j (bH tb) zg;have lg:=(Hb.lt g rfl).2;have zj:=zt j (I X.ts)
 have HBO:=zh (HI.o.both tb (zM NF));unfold bH at cg;clear Hb NF hn hj;go_in;go_upto_region 3 with fail
 go_quiet ((go_at_call 10;exact Calls.quiet_of_same (Qx.o _)));have QG:w.u ((κ w (Ω #[ι kind,ι x,ι a,ι b,γ s] 27)).drewN nq):=aK JK.o nq;have q0:((κ w (Ω #[ι kind,ι x,ι a,ι b,γ s] 27)).drewN nq).h w.t #[ι kind,ι x,ι a,ι b,γ s] 27:=bA _ _ _ rfl;have k0:=zq 0 q0;have k2:=zq 2 q0;have k3:=zq 3 q0
 have l0:=aA q0;have XD:=zh QG;obtain⟨n0,Yn⟩:=zE (w.heap.size);clear QG q0 lg cg;generalize (κ w (Ω #[ι kind,ι x,ι a,ι b,γ s] 27)).drewN nq=w2 at*;rw[<-Yn] at k0 k2 k3 l0 ⊢;clear Yn;by_cases k10:kind=10
 . subst k10
   have Et:=HW.o.1.below XD.o;have ky:I X.pcs<=20000/\szL X.pcs<=20000/\I X.ss+1<=20001:=by have:=Kk.o;unfold Wld.cost at this;omega
   have HD:=zh XD.o.drew;have Vk:=zh (zg2 tb X.pcs vP a (decide (b=1)) w2.drew (HBO.o.below HD.o) (HW.o.1.below HD.o).rp ky.1 HI.o.pcs ky.2.1 (HG.o.later HD.o));have b1:=zq 1 Et.blk;obtain⟨aP,cP,Ru⟩:=bJ Et.rp;rw[Ru] at b1 Vk;have lw2:=Et.lt;have Jy:((b:Int)==1)=decide (b=1):=by
    by_cases e:b=1
    . simp[e]
    rw[decide_eq_false e]
    exact beq_eq_false_iff_ne.2 e
   have HSS:=zh ky.2.2;generalize decide (b=1)=sg at*;clear Et ky Ru b2 lb;unfold bH at Vk;have Kb:∀ W,w2.u W->W.v wb 1 (τ aP (I X.pcs) cP)/\W.i n0 2 a/\W.i n0 3 b:=λW hb=>⟨(aG hb (wb.p 1) lw2).trans b1,(aG hb (n0.p 2) l0).trans k2,(aG hb (n0.p 3) l0).trans k3⟩;have YZ:=zh Kb;clear Kb;go_upto_region 14 with fail
   go_region_held3 (λw'=>w'.v wb 1 (τ aP (I X.pcs) cP)/\w'.i n0 2 a/\w'.i n0 3 b) (first|exact YZ.o _ iM.drew|exact YZ.o _ qz.o) (first|(go_at_call 28;refine Vk.o.mono ?_;rintro e w3 ⟨Hu,hr3⟩;obtain⟨p,rfl,yo⟩:∃ p:Option Addr,e=ρ (ϕ #[Φ p,φ true])/\(p=none\/∃ s F,p=some ⟨s,0,none⟩/\Scn w2.drew.t s F w3):=(by rcases hr3 with e1|⟨s,F,e1,h1⟩;exact⟨none,e1,.inl rfl⟩;exact⟨_,e1,.inr ⟨s,F,rfl,h1⟩⟩);have H3:=Θ Hu yo;have qz:zH (w2.u w3):=zh ⟨Hu.os,Hu.tape,Hu.output,Hu.size,Hu.block⟩;clear Hu hr3 yo))
   have Hu:=bI HD.o H3.o.1 HD.o.size
   rcases H3.o.2 with rfl|⟨sn,F,rfl,hF⟩
   . have HB:=zh Hu
     clear Hu;go_wp2;go_ret;exact zc5.same (HI.o.below HB.o) (HB.o.mono HI.o.size)
   have PM:=HW.o.1.below Hu
   have q3:=zq 3 PM.blk;obtain⟨aS,cS,Pp⟩:=bJ PM.rs;rw[Pp] at q3 PM;have vq:=zh PM.rs;have HB:=zh Hu;have H4:=Θ PM hF;have Eh:=zh (show (∀ g,β vT=some g->N<=g)/\∀ g,β (Value.slice aS (I X.ss) cS)=some g->N<=g from⟨HW.o.2.1,by rw[<-Pp];exact HW.o.2.2⟩);have QR:I X.ss+1<=1000000000:=by have:=HSS.o;omega
   clear Hu PM hF Pp
   go_wp2_with (at_builtin;refine dM rfl elemSs rfl (by exact (vq.o.alloc _)) [π sn] QR ?_;intro v3 w4 jc X9 UK;obtain⟨a3,c3,Rs⟩:=bJ jc;subst Rs;have Nn:=Inv.putS (HI.o.below HD.o) H3.o.1 H4.o.1 Eh.o H4.o.2 jc X9 UK;have KP:=zen H4.o.1.blk ⟨_,H4.o.1.blk⟩ zd H4.o.1.rs X9;have q4:=zq 3 KP;have f4:=zF 3 KP;have Ua:=zh Nn;clear jc X9 UK Nn KP)
   go_ret;exact⟨rfl,(HB.o.mono HI.o.size).trans Ua.o.2,_,Ua.o.1,by simp[Wld.cost];omega⟩
 go_wp2
 go_ret;exact zc5.same (HI.o.below XD.o) (XD.o.mono HI.o.size)
def zcM (T:dX):Nat->uU->List Tk->List Tk×Nat×uU
 | 0,r,l=>(l,0,r)
 | n+1,r,l=>if (gT T r).2.1≠0 then (l,(gT T r).2.1,(gT T r).2.2) else zcM T n (gT T r).2.2 (l++[(gT T r).1])
theorem zg4 {T:dX} {R:Nat} (hT:yV T R) (hC:4<=C):∀ (n:Nat) (x:Sc) (r:uU) (l:List Tk),Sim C x r->(mG T C n x l).1=(zcM T n r l).1/\(mG T C n x l).2.1=(zcM T n r l).2.1/\Sim C (mG T C n x l).2.2 (zcM T n r l).2.2
 | 0,x,r,l,h=>⟨rfl,rfl,h⟩
 | n+1,x,r,l,h=>by
  obtain⟨h1,h2,h3⟩:=zeM (T:=T) hT hC h;rw[mG,zcM,h2];split
  . exact⟨rfl,rfl,h3⟩
  rw[h1]
  exact zg4 hT hC n _ _ _ h3
theorem all_wf {M:Nat}:∀ (n:Nat) (x:Sc) (l:List Tk),xF M C x->xF M C (mG T C n x l).2.2
 | 0,x,l,h=>h
 | n+1,x,l,h=>by
  rw[mG];split
  . exact zaV h
  exact all_wf n _ _ (zaV h)
theorem rall_wf :∀ (n:Nat) (r:uU) (l:List Tk),RWf r->RWf (zcM T n r l).2.2
 | 0,r,l,h=>h
 | n+1,r,l,h=>by
  rw[zcM];split
  . exact zb0 h
  exact rall_wf n _ _ (zb0 h)
theorem rnext_pos {r:uU} (hw:RWf r):r.aQ<=(gT T r).2.2.aQ/\((gT T r).2.1=0->r.aQ+1<=(gT T r).2.2.aQ):=by
 unfold gT;split
 . rename_i h1
   exact⟨bR,λh0=>absurd h0 h1⟩
 cases hi:mU T r.C r.rest r.why with
 | err k=>
  refine⟨bR,λh0=> ?_⟩;have:=hw.why;unfold mU at hi
  grind
 | tok rU len=>
  obtain⟨h2,h3⟩:=xS (rule':=0) hi;have:(r.mv (ε r.rest 0 len)).aQ=r.aQ+len:=by
   show r.aQ+(ε r.rest 0 len).size=_;rw[fS _ _ h3]
  dsimp only;omega
theorem elemRT:eO prog 81 74 5 48:=eO.of (z:=.agg #[ι 0,ι 0,ι 0,ι 0,γ ⟨#[]⟩]) underlying81 zK rfl zd
theorem all_none (xb:Nat) (m:Int) (hm:m<1) (w:ω):Γ 25 #[aF xb,ι m] w λe w'=>e=ρ (ϕ #[ν,.nilIface])/\w.u w':=by
 obtain⟨W,hW⟩:=zE (κ (κ (κ (κ w (Ω #[ι m] 3)) (Ω #[ν] 78)) (Ω #[.nilIface] 51)) (Ω #[ν] 78));have hb:w.u W:=by
  rw[hW];exact (((Ξ w _).alloc zs _).alloc zx _).alloc zx _
 have p1:W.h (w.t+1) #[ν] 78:=by
  rw[hW,bS _ _ _ zs,bS _ _ _ zs];exact bA _ _ _ zs
 have p2:W.h (w.t+1+1) #[.nilIface] 51:=by
  rw[hW,bS _ _ _ zs];exact bA _ _ _ zs
 have c1:=zq 0 p1;have c2:=zq 0 p2;have HB:=Λ hb c1 c2;clear hb p1 p2 c1 c2;unfold aF;go_in;go_wp2;rw[<-hW];obtain⟨h0,h1,h2⟩:=HB.o;exact bodyPost_ret (v:=ϕ #[ν,.nilIface]) (by simp[results,results25,go_sem,h1,h2]) rfl ⟨rfl,h0⟩
section
variable {N0 s:Nat} {T:dX} {C xb yb rb tb:Nat} {x y x' y':Sc} {r r':uU} {F F0 Fx Fy Fx' Fy' Ch:Nat->Prop} {w0 w w':ω} {L:List TypeId}
theorem ScP.allI (hT:yV T R0) (h:ScP N0 T C xb x F w) (hTabs:oK w) (hC:4<=C/\C<=100000) (hw:xF 100000 C x) (m:Int) (hm:In64 m):
 Γ 25 #[aF xb,ι m] w λe w'=>∃ outv,e=ρ (ϕ #[outv,fN (mG T C m.toNat x []).2.1])/\w'.r 64 5 outv (I ((mG T C m.toNat x []).1)) (fV (mG T C m.toNat x []).1)/\ScGo N0 T C xb (mG T C m.toNat x []).2.2 F w w':=by
 by_cases h1:m<1
 . rw[show m.toNat=0 by omega]
   refine (all_none xb m h1 w).mono ?_;rintro e w' ⟨rfl,hb⟩;exact⟨_,rfl,World.ownsRow_nil _ _ _ _,F,h.chd (lI.of_below hb) pD zd (λ_ k=>k.elim),lI.of_below hb,λb k=>.inl k⟩
 obtain⟨n,rfl⟩:∃ n:Nat,m=n:=⟨m.toNat,zo⟩
 have:=hm.2;exact h.all hT hTabs hC hw n zo zo
def KeepRow (w w':ω):Prop:=∀ v n xs,w.r 64 5 v n xs->w'.r 64 5 v n xs
theorem mT.allX (h:mT w0 F0 N0 s T C xb yb rb tb x y r w) (hN:jV<=N0) (hC:4<=C/\C<=100000) (hw:xF 100000 C x) (m:Int) (hm:In64 m):
 Γ 25 #[aF xb,ι m] w λe w'=>∃ outv,e=ρ (ϕ #[outv,fN (mG T C m.toNat x []).2.1])/\w'.r 64 5 outv (I ((mG T C m.toNat x []).1)) (fV (mG T C m.toNat x []).1)/\mT w0 F0 N0 s T C xb yb rb tb (mG T C m.toNat x []).2.2 y r w':=by
 obtain⟨Fx,Fy,Pj,h0,hs⟩:=h.st;obtain⟨_,_,_,_,R,_,_,hT,_⟩:=Pj.ref;refine (Pj.px.allI hT h.gl.tabs hC hw m hm).mono ?_;rintro e w' ⟨outv,rfl,hr,hg⟩;obtain⟨F',h1,h2,h3⟩:=Pj.stepX hg;exact⟨outv,rfl,hr,(h.go hN Pj h0 hs h1 h2 h3).1⟩
theorem mT.allY (h:mT w0 F0 N0 s T C xb yb rb tb x y r w) (hN:jV<=N0) (hC:4<=C/\C<=100000) (hw:xF 100000 C y) (m:Int) (hm:In64 m):
 Γ 25 #[aF yb,ι m] w λe w'=>∃ outv,e=ρ (ϕ #[outv,fN (mG T C m.toNat y []).2.1])/\w'.r 64 5 outv (I ((mG T C m.toNat y []).1)) (fV (mG T C m.toNat y []).1)/\mT w0 F0 N0 s T C xb yb rb tb x (mG T C m.toNat y []).2.2 r w'/\KeepRow w w':=by
 obtain⟨Fx,Fy,Pj,h0,hs⟩:=h.st;obtain⟨_,_,_,_,R,_,_,hT,_⟩:=Pj.ref;refine (Pj.py.allI hT h.gl.tabs hC hw m hm).mono ?_;rintro e w' ⟨outv,rfl,hr,hg⟩;obtain⟨F',h1,h2,h3⟩:=Pj.stepY hg;exact⟨outv,rfl,hr,(h.go hN Pj h0 hs h1 h2 h3).1,λv n xs k=>eJ k h2 Pj.off.1 zd⟩
structure AlS (w0:ω) (F0:Nat->Prop) (N0 s:Nat) (T:dX) (C xb yb rb tb:Nat) (x y:Sc) (va vb:Value) (la:List Tk) (r:uU) (l:List Tk) (v:Value) (w:ω):Prop where
 j:mT w0 F0 N0 s T C xb yb rb tb x y r w
 ra:w.r 64 5 va (I la) (fV la)
 rb:w.r 64 5 vb (I la) (fV la)
 rw:w.r 74 5 v (I l) (fV l)
 new:∀ g,β v=some g->w0.t<=g
 wf:RWf r
 len:I l<=r.aQ
variable {va vb v:Value} {la l:List Tk} {t:Tk}
theorem AlS.below (h:AlS w0 F0 N0 s T C xb yb rb tb x y va vb la r l v w) (hb:w.u w'):AlS w0 F0 N0 s T C xb yb rb tb x y va vb la r l v w':=
 ⟨mT.stJ.mono _ _ h.j hb,aN h.ra hb,aN h.rb hb,aN h.rw hb,h.new,h.wf,h.len⟩
theorem AlS.next (h:AlS w0 F0 N0 s T C xb yb rb tb x y va vb la r l v w) (hN:jV<=N0) (hg:w.g w' rb) (hr:rD w' rb tb (gT T r).2.2) (hl:I l<=(gT T r).2.2.aQ):AlS w0 F0 N0 s T C xb yb rb tb x y va vb la (gT T r).2.2 l v w':=by
 obtain⟨Fx,Fy,hm,h0,hs⟩:=h.j.st;obtain⟨h1,h2⟩:=hm.stepR hg hr;have ho:=hm.off.1;exact⟨(h.j.go hN hm h0 hs h1 h2 (λb k=>.inl k)).1,eJ h.ra h2 ho zd,eJ h.rb h2 ho zd,eJ h.rw h2 ho zd,h.new,zb0 h.wf,hl⟩
theorem AlS.app {ob:Obj} {w2:ω} {v2:Value} (h:AlS w0 F0 N0 s T C xb yb rb tb x y va vb la r l v w) (hN:jV<=N0) (h0:N0<=w0.t) (hl:I l+1<=r.aQ) (Hb:w2.r 74 5 v2 (I l+1) (fV l++[ι t.rU,ι t.pos,ι t.line,ι t.col,γ t.text])) (hg:(κ w ob).grownBy w2 (β v)) (qh:β v2=β v\/β v2=some (κ w ob).heap.size):
 AlS w0 F0 N0 s T C xb yb rb tb x y va vb la r (l++[t]) v2 w2:=by
 have hc:lI (λb=>β v=some b) w w2:=(lI.of_below (Ξ w ob)).trans (lI.of_grown hg λb k=>k) λb k=>.inl k;have ho:Off [74] (λb=>β v=some b) w:=λg hg=>⟨_,zs,dE h.rw hg⟩;obtain⟨Fx,Fy,hm,k0,ks⟩:=h.j.st;have Hv:=k0.size
 refine⟨⟨h.j.gl.below (hc.below (zT h0 Hv) λb k=>zT h0 (h.new b k)) hN,rH h.j.blk hc ho zd,Fx,Fy,hm.chd hc ho zd (λb k e=> ?_),k0.trans hc (λb k=>.inr (h.new b k)),ks⟩,eJ h.ra hc ho zd,eJ h.rb hc ho zd,?_,λg e=> ?_,h.wf,by simpa using hl⟩
 . obtain⟨t2,ht,hy⟩:=hm.off.1 b e
   refine ho.not hy (λe2=> ?_) k;rw[zMs] at e2;subst e2;exact absurd ht zd
 . rw[zcY,zLn]
   exact Hb
 rcases qh with k|k
 . exact h.new g (k▸e)
 rw[k] at e
 cases e;simp;omega
theorem tok_store {q:Nat} {ty:TypeId} {a0 a1 a2 a3 a4:Value} (b0 b1 b2 b3 b4:Value) (h:w.h q #[a0,a1,a2,a3,a4] ty):
 (w.v q 0 a0/\w.q q 0)/\((ς w q.a b0).v q 1 a1/\(ς w q.a b0).q q 1)/\
 ((ς (ς w q.a b0) (q.p 1) b1).v q 2 a2/\(ς (ς w q.a b0) (q.p 1) b1).q q 2)/\
 ((ς (ς (ς w q.a b0) (q.p 1) b1) (q.p 2) b2).v q 3 a3/\(ς (ς (ς w q.a b0) (q.p 1) b1) (q.p 2) b2).q q 3)/\
 ((ς (ς (ς (ς w q.a b0) (q.p 1) b1) (q.p 2) b2) (q.p 3) b3).v q 4 a4/\(ς (ς (ς (ς w q.a b0) (q.p 1) b1) (q.p 2) b2) (q.p 3) b3).q q 4)/\
 (ς (ς (ς (ς (ς w q.a b0) (q.p 1) b1) (q.p 2) b2) (q.p 3) b3) (q.p 4) b4).h q #[b0,b1,b2,b3,b4] ty/\
 w.grownBy (ς (ς (ς (ς (ς w q.a b0) (q.p 1) b1) (q.p 2) b2) (q.p 3) b3) (q.p 4) b4) (some q):=by
 have h1:=aB _ q 0 b0 _ _ _ h;have h2:=aB _ q 1 b1 _ _ _ h1;have h3:=aB _ q 2 b2 _ _ _ h2;have h4:=aB _ q 3 b3 _ _ _ h3;have h5:=aB _ q 4 b4 _ _ _ h4;exact⟨⟨zQ 0 h,zF 0 h⟩,⟨zQ 1 h1,zF 1 h1⟩,⟨zQ 2 h2,zF 2 h2⟩,⟨zQ 3 h3,zF 3 h3⟩,⟨zQ 4 h4,zF 4 h4⟩,h5,
  aC (bQ _ q 0 _) (aC (bQ _ q 1 _) (aC (bQ _ q 2 _) (aC (bQ _ q 3 _) (bQ _ q 4 _))))⟩
abbrev TkC (w:ω) (g i:Nat) (t:Tk):Prop:=w.i g (i*5) t.rU/\w.i g (i*5+1) t.pos/\w.i g (i*5+2) t.line/\w.i g (i*5+3) t.col/\w.v g (i*5+4) (γ t.text)
theorem zc0 {ao:Option Addr} {cap i:Nat} (h:w.r e 5 (τ ao (I l) cap) (I l) (fV l)) (hi:l[i]?=some t):∃ g,ao=some ⟨g,0,none⟩/\g<w.t/\∀ w',w.u w'->g<w'.t/\TkC w' g i t:=by
 have:=pO hi;obtain⟨g,rfl⟩:∃ g,ao=some ⟨g,0,none⟩:=by
  rcases aY h with⟨e,h0⟩|⟨g,cap,e,_⟩
  . omega
  grind
 have lg:=(h.lt g rfl).2;refine⟨g,rfl,lg,λw' hb=> ?_⟩;have key:∀ j u,(fV l)[j]?=some u->w'.v g j u:=λj u hu=>(aG hb (g.p j) lg).trans (aJ h j u hu);obtain⟨q0,q1,q2,q3,q4⟩:=zg6 l i t hi;exact⟨zLd lg hb.size,key _ _ q0,key _ _ q1,key _ _ q2,key _ _ q3,key _ _ q4⟩
end
theorem scn_all {s:Nat} {F:Nat->Prop} (h:Scn N0 s F w) (hG:Gl w) (hN:jV<=N0) (m:Int) (hm:In64 m):Γ 13 #[bH s,ι m] w λe w'=>e=ρ (φ true)/\zid N0 s F w w':=by
 obtain⟨T,C,xb,yb,rb,tb,x,y,r,Fx,Fy,hb,YC,hp,rfl⟩:=h;obtain⟨_,_,_,_,R0,_,_,hT,_⟩:=YC.ref;obtain⟨R,hR⟩:=zE (zcM T m.toNat r []);have q1:=zg4 (T:=T) hT hp.C.1 m.toNat x r [] hp.sx;have q2:=zg4 (T:=T) hT hp.C.1 m.toNat y r [] hp.sy;have q3:=rall_wf (T:=T) m.toNat r [] hp.wf;have q4:=all_wf (T:=T) m.toNat x [] hp.wx;have q5:=all_wf (T:=T) m.toNat y [] hp.wy;have hj:mT w (fp3 Fx Fy rb) N0 s T C xb yb rb tb x y r w:=⟨hG,hb,Fx,Fy,YC,lI.of_below iM,λb k=>.inl k⟩
 have R3:=zh (hj.allX hN hp.C hp.wx m hm);have Li:=zh (λx' w' (h:mT w (fp3 Fx Fy rb) N0 s T C xb yb rb tb x' y r w')=>h.allY hN hp.C hp.wy m hm);rw[<-hR] at q1 q2 q3;rw[q1.1,q1.2.1] at R3;rw[q2.1,q2.2.1] at Li;have WM:=zh hp.wf;have Q3:=zh (show ∀ w',mT w (fp3 Fx Fy rb) N0 s T C xb yb rb tb (mG T C m.toNat x []).2.2 (mG T C m.toNat y []).2.2 R.2.2 w'->zid N0 s (fp3 Fx Fy rb) w w' from λw' h=>by
  obtain⟨Fx',Fy',Pj,hc,hs⟩:=h.st;exact⟨fp3 Fx' Fy' rb,⟨T,C,xb,yb,rb,tb,_,_,_,Fx',Fy',h.blk,Pj,⟨q3,q1.2.2,q2.2.2,q4,q5,hp.C⟩,rfl⟩,hc,hs⟩)
 generalize (mG T C m.toNat x []).2.2=x2 at*;generalize (mG T C m.toNat y []).2.2=y2 at*;have c0:=zq 0 hb;have yh:=zh YC.size;have uu:=zh hN;have Km:=zh hR;obtain⟨lR,kR,rR⟩:=R;dsimp only at R3 Li Q3 Km;clear hb YC hp hR q1 q2 q3 q4 q5 hj hT hG hm;generalize fp3 Fx Fy rb=F0 at*;obtain⟨ev,tY⟩:=zE (fN kR);rw[<-tY] at R3 Li;have Ab:=zh tY;clear tY;unfold bH at*;unfold aF at*
 go_in;go_upto_region 2 with (go_at_call 25;refine R3.o.mono ?_;rintro e w1 ⟨va,rfl,js,Ds⟩;have H1:=Θ js Ds;clear js Ds)
 have Hk:=H1.o.2.blk;have c1:=zq 1 Hk;have NY:=zh (Li.o _ _ H1.o.2);unfold aF at c1;clear Li c0 Hk;go_upto_region 3 with (go_at_call 25;refine NY.o.mono ?_;rintro e w2 ⟨vb,rfl,Po,Pf,QF⟩;have H2:=Λ Po Pf (QF _ _ _ H1.o.1);clear Po Pf QF)
 obtain⟨aa,ca,BH⟩:=bJ H2.o.2.2;obtain⟨ab,cb,NK⟩:=bJ H2.o.1;subst BH NK;have AG:AlS w F0 N0 s T C xb yb rb tb x2 y2 (τ aa (I lR) ca) (τ ab (I lR) cb) lR r [] ν w2:=⟨H2.o.2.1,H2.o.2.2,H2.o.1,World.ownsRow_nil _ _ _ _,λg e=>(by cases e),WM.o,rC⟩;have VB:=zh AG;clear AG c1 H1 H2;go_wp2_with fail
 go_loopg [9,10] (m.toNat+1) (λgh s9 XJ wr=>∃ (l:List Tk) (r':uU) (k:Nat) (ao:Option Addr) (cap:Nat),s9=τ ao (I l) cap/\XJ=ι k/\gh=(if k=0 then m.toNat-I l+1 else 0)/\(k≠0->(I l:Int)<m)/\AlS w F0 N0 s T C xb yb rb tb x2 y2 (τ aa (I lR) ca) (τ ab (I lR) cb) lR r' l (τ ao (I l) cap) wr/\(if k=0 then zcM T (m.toNat-I l) r' l=(lR,kR,rR)/\(I l:Int)<=max m 0 else (l,k,r')=(lR,kR,rR)))
 case atStart=>exact⟨[],r,0,none,0,rfl,rfl,zs,zs,VB.o,by rw[zP rfl];exact⟨Km.o.symm,zx⟩⟩
 case round=>
  obtain⟨l,r',k,ao,cap,rfl,rfl,rfl,pg,hS,qy⟩:=hrel;have HS:=zh hS;clear hS VB Km;by_cases Qg:k=0/\(I l:Int)<m
  . obtain⟨rfl,zl⟩:=Qg
    rw[zP rfl] at qy;obtain⟨n,hn⟩:∃ n,m.toNat-I l=n+1:=⟨m.toNat-I l-1,zo⟩;rw[hn,zcM] at qy;have V8:I l+1<=1000000000:=by
     exact zzDh
    have yp:=rnext_pos (T:=T) HS.o.wf;have QI:=λw' hg hr hl=>HS.o.next (w':=w') uu.o hg hr hl;obtain⟨w3,yj⟩:=zE (κ wr (Ω #[ι 0,ι 0,ι 0,ι 0,γ ⟨#[]⟩] 74));have Hu:wr.u w3:=by rw[yj];exact iM.alloc bR _
    have EX:w3.h wr.t #[ι 0,ι 0,ι 0,ι 0,γ ⟨#[]⟩] 74:=by rw[yj];exact bA _ _ _ rfl
    have Xh:=HS.o.below Hu;obtain⟨_,_,Vc,_,_⟩:=Xh.j.st;have Qo:=zh (zfP Vc.ref r' Xh.wf Vc.pr);have hqr:rb≠wr.t:=by
     obtain⟨_,_,Aw,_,_⟩:=HS.o.j.st;have:=aA Aw.pr;omega
    have c2:=zq 2 Xh.j.blk;unfold bH at c2 Qo;obtain⟨t,k2,r2,Xw⟩:∃ t k2 r2,gT T r'=(t,k2,r2):=⟨_,_,_,rfl⟩;rw[Xw] at qy yp Qo QI;dsimp only at qy yp QI;have lq:=aA EX;have HB:=Λ Hu hqr EX;have Hl:=zh QI;have QM:=zh qy;have Hn:=zh yp;obtain⟨t0,t1,t2,t3,t4⟩:=t;clear Hu hqr EX Vc Xh Xw QI qy yp pg;go_upto_region 7 with fail
    rw[<-yj];clear yj;obtain⟨q,hq⟩:=zE (wr.heap.size);rw[<-hq] at lq HB ⊢;have HQ:=zh hq;clear hq
    go_upto_region 8 with (go_at_call 23;refine Qo.o.mono ?_;rintro e w4 ⟨rfl,Vp,Cr⟩;have BB:=(Vp.block q lq (λe=>HB.o.2.1 (zO e).symm)).trans HB.o.2.2;obtain⟨⟨x0,z0⟩,⟨x1,z1⟩,⟨x2,z2⟩,⟨x3,z3⟩,⟨x4,z4⟩,No,Jj⟩:=tok_store (ι t0) (ι t1) (ι t2) (ι t3) (γ t4) BB;have H4:=Ψ Vp Cr No Jj;clear Vp Cr BB No Jj;unfold tkV)
    obtain⟨w5,Xz⟩:=zE (ς (ς (ς (ς (ς w4 q.a (ι t0)) (q.p 1) (ι t1)) (q.p 2) (ι t2)) (q.p 3) (ι t3)) (q.p 4) (γ t4));rw[<-Xz] at H4 ⊢;clear Xz x0 z0 x1 z1 x2 z2 x3 z3 x4 z4 c2 lq;have SP:rD w5 rb tb r2:=(H4.o.2.2.2.block rb (aA H4.o.2.1) (λe=>HB.o.2.1 (zO e))).trans H4.o.2.1
    have dx:=Hl.o w5 (zch (aC (aH (HQ.o▸HB.o.1) _) H4.o.1) H4.o.2.2.2 (by rw[HQ.o];exact bR)) SP (by have:=HS.o.len;have:=Hn.o.1;omega);have:=zq 0 H4.o.2.2.1;have:=zq 1 H4.o.2.2.1;have:=zq 2 H4.o.2.2.1;have:=zq 3 H4.o.2.2.1;have:=zq 4 H4.o.2.2.1;have VC:=zh dx;clear dx SP;by_cases QF:k2=0
    . subst QF
      have xn:=zh VC.o.rw;have qo:I l+1<=r2.aQ:=by have:=HS.o.len;have:=Hn.o.2 rfl;omega
      have LE:=zh qo;have Sf:=Θ zl hn;clear qo zl hn;go_wp2_with (at_builtin;refine dM rfl elemRT rfl (by exact (xn.o.alloc _)) [ι t0,ι t1,ι t2,ι t3,γ t4] V8 ?_;intro v6 w6 XU PY TO;obtain⟨a6,c6,hv6⟩:=bJ XU;subst hv6;have HA:=zh (VC.o.app (t:=⟨t0,t1,t2,t3,t4⟩) uu.o yh.o LE.o XU PY TO);clear XU PY TO);go_roundg (n+1)
      case rel=>
       have h9:=QM.o;rw[zN zs] at h9;have:=Sf.o;have e:I (l++[(⟨t0,t1,t2,t3,t4⟩:Tk)])=I l+1:=zs
       exact⟨l++[⟨t0,t1,t2,t3,t4⟩],r2,0,a6,c6,by rw[e],rfl,by rw[zP rfl,e];omega,λh=>absurd rfl h,by rw[e];exact HA.o,by rw[zP rfl,e,show m.toNat-(I l+1)=n by omega];exact⟨h9.1,zo⟩⟩
      case measure=>have:=Sf.o;omega
    have:((k2:Int)==0)=false:=beq_eq_false_iff_ne.2 zo
    have VX:=zh QF;have Sf:=zh zl;clear QF zl;go_wp2_with fail;go_roundg 0
    case rel=>exact⟨l,r2,k2,ao,cap,rfl,rfl,by rw[zN VX.o],λ_=>Sf.o,VC.o,by rw[zN VX.o];have h9:=QM.o;rw[zP VX.o] at h9;exact h9.1⟩
    case measure=>omega
  obtain⟨rfl,rfl,rfl⟩:l=lR/\k=kR/\r'=rR:=by
   by_cases hk:k=0
   . subst hk
     rw[zP rfl] at qy;rw[show m.toNat-I l=0 by omega,zcM] at qy;have h9:=qy.1;simp only[Prod.mk.injEq] at h9;exact h9
   rw[zN hk] at qy
   simp only[Prod.mk.injEq] at qy;exact qy
  obtain hex:((I l:Int)<m/\((k:Int)==0)=false)\/¬ (I l:Int)<m:=by
   by_cases hk:k=0
   . exact .inr λh=>Qg ⟨hk,h⟩
   exact .inl ⟨pg hk,beq_eq_false_iff_ne.2 zo⟩
  have HT:=zh (λW (hb:wr.u W)=>told_k k W (HS.o.j.gl.later hb));rw[<-Ab.o] at HT;have Ho:I l<=1000000:=by
   exact zzDh
  clear qy pg Qg;have XC:=zh Ho;clear Ho
  rcases hex with⟨zl,zk⟩|zl
  all_goals
   go_upto_region 11 with (go_at_call 19;refine (HT.o _ iM).mono ?_;rintro e w6 ⟨rfl,QT⟩;have H6:=zh QT;clear QT)
   go_upto_region 12 with (go_at_call 19;refine (HT.o _ H6.o).mono ?_;rintro e w7 ⟨rfl,yv⟩;have H7:=zh (HS.o.below (bI H6.o yv H6.o.size));clear yv)
   clear zl HT;go_wp2_with fail;go_loopw [14] (λs14 wr2=>∃ i:Nat,s14=ι i/\i<=I l/\w7.u wr2) (λs14 _=>I l-(ϑ s14).toNat)
   case atStart=>exact⟨0,rfl,rC,iM⟩
   case round=>
    obtain⟨i,rfl,hi,IT⟩:=hrel;by_cases Hf:i<I l
    . have zi:=zt i (I l)
      have:=zW i (by have:=XC.o;omega);obtain⟨⟨t0,t1,t2,t3,t4⟩,Kd⟩:∃ t,l[i]?=some t:=⟨_,zLe Hf⟩;obtain⟨ga,rfl,_,ha⟩:=zc0 H7.o.ra Kd;obtain⟨gb,rfl,_,hb⟩:=zc0 H7.o.rb Kd;obtain⟨gw,rfl,_,hw⟩:=zc0 H7.o.rw Kd;have VG:=zh (λW=>zdS ⟨t0,t1,t2,t3,t4⟩ W);have Ll:=zh IT;have HW:=zh hw;have Iw:=Θ ha hb;unfold tkV at VG;clear IT ha hb hw Kd
      have LY:=zh (λw' hb=>zAi (Iw.o.1 w' hb).2 (HW.o w' hb).2);go_upto_region 17 with fail
      go_region_held3 (λw'=>TkC w' ga i ⟨t0,t1,t2,t3,t4⟩/\TkC w' gw i ⟨t0,t1,t2,t3,t4⟩) (first|exact LY.o _ Ll.o.drew|exact LY.o _ BJ.o) (first|(go_at_call 24;refine (VG.o _).mono ?_;rintro e w8 ⟨rfl,Yf⟩;have BJ:=zh (bI Ll.o.drew Yf Ll.o.size);clear Yf));have LZ:=zh (λw' hb=>zAi (Iw.o.2 w' hb).2 (HW.o w' hb).2);go_upto_region 18 with fail
      go_region_held3 (λw'=>TkC w' gb i ⟨t0,t1,t2,t3,t4⟩/\TkC w' gw i ⟨t0,t1,t2,t3,t4⟩) (first|exact LZ.o _ BJ.o.drew|exact LZ.o _ QH.o) (first|(go_at_call 24;refine (VG.o _).mono ?_;rintro e w9 ⟨rfl,Yf⟩;have QH:=zh (bI BJ.o.drew Yf BJ.o.size);clear Yf));go_wp2;go_roundw
      case rel=>exact⟨i+1,by go_num,zo,QH.o⟩
      case measure=>exact zY
    have zi:=zn i (I l)
    have Ll:=zh IT;clear IT;go_wp2;go_ret;exact⟨rfl,Q3.o _ (H7.o.below Ll.o).j⟩
theorem own_inv {wb:Nat} {X Y:Wld} {o:sO} {vR vP vT vS:Value} {e:Ending} (hI:Inv N w wb X) (hW:lO w wb X vR vP vT vS) (hT:(∀ g,β vT=some g->N<=g)/\∀ g,β vS=some g->N<=g) (hO:OwnO o wb X vT vS w e w') (hx:ownP o X=some Y):e=ρ (φ true)/\Inv N w' wb Y/\Below N w w':=by
 obtain⟨hg,⟨h1,_⟩|⟨Y2,vR2,vP2,h1,h2,h3⟩⟩:=hO
 . rw[h1] at hx
   cases hx
 rw[h1] at hx
 cases hx;obtain⟨f1,f2,_,f4⟩:=zdD h1;have hc:lI (· =wb) w w':=lI.of_grown hg (λb k=>by cases k;rfl);exact⟨h2,hI.own hc ((zcB ⟨_,hW.blk⟩).mono zd) f1 f2 (f4 hI.pcs) h3 hT,hc.below hI.size (λb k=>k▸hI.low)⟩
theorem step_any (o:sO) (ho:o.Ok) (hk:o.kind≠6/\o.kind≠7/\o.kind≠8/\o.kind≠9) (N:Nat) (w:ω) (wb:Nat) (X:Wld) (hI:Inv N w wb X) (hG:Gl w) (hN:jV<=N) (hl:X.cost<=20000):
 Γ 7 #[bH wb,.agg o.cells] w (zc5 N wb X (1+o.s.size) w):=by
 obtain⟨vR,vP,vT,vS,hW,hT⟩:=hI.wld;have YV:=(zBr w.t w).alloc bR (Ω o.cells 27);have Zn:=hI.size;have Sw:=hW.below YV;have Sj:=hI.below YV;have B6:=zh (owner_any o ho _ wb X vR vP vT vS Sw (by unfold Wld.cost at hl;omega));have lb:=hW.lt;have Pv:=zh Sj;have JK:=zh (YV.mono Zn);have HN:=zh hN;have HL:=zh hl;have HO:=zh ho;have N8:=zh (hG.later YV);cases hx:ownP o X with
 | some Y=>
  have HC:zH (Γ 8 #[bH wb,.agg o.cells] (κ w (Ω o.cells 27)) λe w'=>e=ρ (φ true)/\Inv N w' wb Y/\Below N (κ w (Ω o.cells 27)) w'):=
   zh (B6.o.mono λe w' h=>own_inv Sj Sw hT h hx)
  have HM:=zh (zdD hx).2.2.1;obtain⟨kind,x,a,b,s⟩:=o;clear hx hW Sw Sj hI YV hT hl ho hG B6 hk;unfold bH sO.cells at HC ⊢;unfold sO.cells at JK;go_in;go_wp2_with (first|(go_at_call 8;refine HC.o.mono ?_;rintro e w1 ⟨rfl,TW,Hk⟩;have H1:=Θ TW Hk;clear TW Hk));go_ret;exact⟨rfl,JK.o.trans H1.o.2,Y,H1.o.1,by have:=HM.o;omega⟩
 | none=>
  have HC:zH (Γ 8 #[bH wb,.agg o.cells] (κ w (Ω o.cells 27)) λe w'=>e=ρ (φ false)/\Below (κ w (Ω o.cells 27)).t (κ w (Ω o.cells 27)) w'):=
   zh (B6.o.mono (by
    rintro e w' ⟨_,⟨_,h1,h2⟩|⟨Y,_,_,h1,_⟩⟩
    all_goals grind))
  obtain⟨kind,x,a,b,s⟩:=o;have k8:¬ kind=8:=hk.2.2.1;have k9:¬ kind=9:=hk.2.2.2;have HK:=Θ hk.1 hk.2.1;clear hx hW Sw Sj hI YV hT hl ho hG B6 hk vR vP vT vS;unfold bH sO.cells at HC ⊢;unfold sO.cells at JK Pv N8;go_in;go_upto_region 4 with (go_at_call 8;refine HC.o.mono ?_;rintro e w1 ⟨rfl,Hk⟩;have XW:=zh Hk;clear Hk)
  have Be:=Pv.o.below XW.o;have Si:=N8.o.later XW.o;have hbN:Below N w w1:=JK.o.trans (XW.o.mono (zT Zn JK.o.size));have Yp:w1.h w.t #[ι kind,ι x,ι a,ι b,γ s] 27:=(XW.o.block _ zs).trans (bA _ _ _ rfl);obtain⟨n0,Yn⟩:=zE (w.heap.size);rw[<-Yn] at Yp ⊢;have p0:=zq 0 Yp;have p1:=zq 1 Yp;have p2:=zq 2 Yp;have p3:=zq 3 Yp;have p4:=zq 4 Yp
  obtain⟨vR,vP,vT,vS,Jw,Ss⟩:=Be.wld;obtain⟨aR,cR,kh⟩:=bJ Jw.rr;obtain⟨aT,cT,l9⟩:=bJ Jw.rt;obtain⟨aS,cS,Pp⟩:=bJ Jw.rs;have b0:=zq 0 Jw.blk;have b2:=zq 2 Jw.blk;have b3:=zq 3 Jw.blk;rw[kh] at b0 Jw;rw[l9] at b2 Jw Ss;rw[Pp] at b3 Jw Ss;have lw:=Jw.lt;have H1:=Ψ Jw Be Si (zAi hbN Ss)
  have QO:=zh Be.size;clear Jw Be Si hbN kh l9 Pp Yp Yn Ss lb Zn;by_cases k5:kind=5
  . subst k5
    have R7:zH (Γ 9 #[τ aR (I X.sT) cR] w1 λe w'=>w1.u w'/\∃ p:Option Addr,e=ρ (ϕ #[Φ p,φ true])/\(p=none\/∃ b,p=some ⟨b,0,none⟩/\rY w' b)):=
     zh ((zfe X.sT w1 _ H1.o.1.rr zzDe H1.o.2.2.1).mono (by
      rintro e w' ⟨h1,h2|⟨b,h2,h3⟩⟩
      . grind
      exact⟨h1,_,h2,.inr ⟨b,rfl,h3⟩⟩))
    go_upto_region 7 with (go_at_call 9;refine R7.o.mono ?_;rintro e w2 ⟨Hm,p,rfl,hp⟩;have QV:=zh Hm;clear Hm)
    have d7:Below N w w2:=H1.o.2.2.2.1.trans (QV.o.mono QO.o)
    rcases hp with rfl|⟨bn,rfl,x6⟩
    . have HB:=zh d7
      clear d7;go_wp2;go_ret;exact zc5.same (H1.o.2.1.below QV.o) HB.o
    have Et:=H1.o.1.below QV.o
    have q2:=(aG QV.o (wb.p 2) lw).trans b2;have Ai:=zh Et.rt;have H2:=Ψ Et (H1.o.2.1.below QV.o) x6 d7;have QR:I X.ts+1<=1000000000:=by have:=HL.o;unfold Wld.cost at this;omega
    clear Et x6 d7
    go_wp2_with (at_builtin;refine dM rfl elemTs rfl (by exact (Ai.o.alloc _)) [π bn] QR ?_;intro v3 w3 jc X9 UK;obtain⟨a3,c3,Rs⟩:=bJ jc;subst Rs;have Nn:=Inv.putT H2.o.2.1 H2.o.1 H1.o.2.2.2.2 H2.o.2.2.1 jc X9 UK;have KP:=zen H2.o.1.blk ⟨_,H2.o.1.blk⟩ zd H2.o.1.rt X9;have q3:=zq 2 KP;have f3:=zF 2 KP;have Ua:=zh Nn;clear jc X9 UK Nn KP)
    go_ret;exact⟨rfl,H2.o.2.2.2.trans Ua.o.2,_,Ua.o.1,by simp[Wld.cost];omega⟩
  by_cases k1:kind=11\/kind=12
  . by_cases hn:I X.ss=0
    . have hz:((I X.ss:Int)==0)=true:=by rw[hn];rfl
      clear hn
      rcases k1 with rfl|rfl
      all_goals go_wp2
      all_goals go_ret
      all_goals exact zc5.same H1.o.2.1 H1.o.2.2.2.1
    have V9:0<I X.ss:=zo
    have hz:((I X.ss:Int)==0)=false:=beq_eq_false_iff_ne.2 zo;have Qx:=zh (λw=>za0 x (I X.ss) HO.o.x V9 zzDe w);have hj:pE x (I X.ss)<I X.ss:=Nat.mod_lt _ V9;generalize pE x (I X.ss)=j at Qx hj;obtain⟨sn,ag⟩:=zG X.ss j hj;have Hb:=H1.o.1.rs;obtain⟨g,rfl⟩:∃ g,aS=some ⟨g,0,none⟩:=by
     rcases aY Hb with⟨e,h0⟩|⟨g,cap,e,_⟩
     . omega
     grind
    have cg:=aJ Hb j (bH sn) zg;have zj:=zt j (I X.ss)
    obtain⟨F,hF,Qg⟩:=H1.o.2.1.at ag;have VW:=zh Qg;have Qo:=zh (λnq=>scn_next (w:=w1.drewN nq) (hF.chd (lI.of_below (aK iM nq)) pD zd (λ_ k=>k.elim)) (H1.o.2.2.1.later (aK iM nq)) HN.o);have ve:=zh (λnq=>scn_all (w:=w1.drewN nq) (hF.chd (lI.of_below (aK iM nq)) pD zd (λ_ k=>k.elim)) (H1.o.2.2.1.later (aK iM nq)) HN.o a HO.o.a)
    have HDN:=zh (λ(nq:Nat) w' (h:zid N sn F (w1.drewN nq) w')=>(show zid N sn F w1 w' from h.imp λF' k=>⟨k.1,(lI.of_below (aK iM nq):lI F w1 (w1.drewN nq)).trans k.2.1 (λb k=>.inl k),k.2.2⟩));unfold bH at cg Qo ve;clear Hb ag hn hj hF Qg
    rcases k1 with rfl|rfl
    all_goals go_upto_region 21 with fail
    all_goals go_quiet ((go_at_call 10;exact Calls.quiet_of_same (Qx.o _)))
    all_goals go_wp2_with (first|(have H0:=Qo.o nq;clear Qo ve;go_at_call 12;refine H0.mono ?_;clear H0;rintro e w2 ⟨rfl,qk⟩;have H2:=zh (HDN.o _ _ qk);clear qk)|(have H0:=ve.o nq;clear Qo ve;go_at_call 13;refine H0.mono ?_;clear H0;rintro e w2 ⟨rfl,qk⟩;have H2:=zh (HDN.o _ _ qk);clear qk))
    all_goals go_ret
    all_goals exact zc5.same (VW.o _ H2.o).1 (H1.o.2.2.2.1.trans (VW.o _ H2.o).2)
  have k11:¬ kind=11:=λe=>k1 (.inl e)
  have k12:¬ kind=12:=λe=>k1 (.inr e);have HOT:=zh (onT_any ⟨kind,x,a,b,s⟩ HO.o HK.o N w1 wb X H1.o.2.1 H1.o.2.2.1 HL.o);unfold bH sO.cells at HOT;clear k1;go_wp2_with (first|(go_at_call 14;refine HOT.o.mono ?_;rintro e w2 ⟨rfl,Hm,Y,hY,Jh⟩;have H2:=Λ Hm hY Jh;clear Hm hY Jh));go_ret;exact⟨rfl,H1.o.2.2.2.1.trans H2.o.1,Y,H2.o.2.1,by have:=H2.o.2.2;omega⟩
def StepJ (l:List sO) (w0:ω) (i:Nat) (w':ω):Prop:=∃ X,Inv w0.t w' w0.t X/\Gl w'/\X.cost<=i+((l.take i).map (·.s.size)).sum/\w0.u w'
theorem inv_start (w:ω):Inv w.t (κ w (Ω #[ν,ν,ν,ν,γ ⟨#[]⟩] 35)) w.t ⟨[],[],[],[],⟨#[]⟩⟩:=
 ⟨⟨_,_,_,_,⟨bA _ _ _ rfl,World.ownsRow_nil _ _ _ _,World.ownsRow_nil _ _ _ _,World.ownsRow_nil _ _ _ _,World.ownsRow_nil _ _ _ _,λ_=>rfl,λ_=>rfl⟩,λg e=>(by cases e),λg e=>(by cases e)⟩,λb hb=>(by cases hb),bR,⟨λ_ _=>False,λi s hi=>(by simp at hi),λi j hi=>(by simp at hi)⟩,λp hp=>(by cases hp)⟩
theorem sum_take (l:List sO):∀ i,i<=I l->i+((l.take i).map (·.s.size)).sum<=I l+(l.map (·.s.size)).sum:=λi hi=>by
 have:(l.map (·.s.size)).sum=((l.take i).map (·.s.size)).sum+((l.drop i).map (·.s.size)).sum:=by
  rw[<-List.sum_append,<-List.map_append,List.take_append_drop]
 omega
theorem upH_of (qd:List Int) (hk:∀ o,yO qd o=true->o.kind≠6/\o.kind≠7/\o.kind≠8/\o.kind≠9) (w:ω) (hG:Gl w):UpH w qd:=λl w' ao cap hb hops YH hsum=>by
 have Zf:=hG.later hb;have YV:=(zBr w'.t w').alloc bR (Ω #[ν,ν,ν,ν,γ ⟨#[]⟩] 35);refine upTo_any l w' ao cap hops zo (StepJ l w') ⟨_,inv_start w',Zf.later YV,rC,YV⟩ (λi w2 ⟨_,_,_,_,h⟩=>h) (λi o w2 ho ⟨X,hI,hG2,h1,Hm⟩=> ?_);obtain⟨h4,h5⟩:=YH o (zM ho);have:=pO ho;have:=sum_take l i zo;refine (step_any o h5 (hk o h4) _ w2 _ X hI hG2 Zf.size zo).mono ?_;rintro e w3 ⟨he,Hu,Y,hY,g1⟩
 refine⟨he,Y,hY,hG2.below Hu Zf.size,?_,Hm.trans Hu⟩;have e:((l.take (i+1)).map (·.s.size)).sum=((l.take i).map (·.s.size)).sum+o.s.size:=by
  rw[List.take_add_one,ho,List.map_append,List.sum_append];simp
 rw[e];omega
theorem kinds_row (w:ω) (l:List Int) (hl:I l<=100):dA (κ w (Ω (dP l).toArray 3)) (σ w.t (I l) (I l)) l:=
 ⟨by simp[dP],.inr ⟨w.t,I l,_,rfl,rC,bA _ _ _ rfl,bR,by unfold maxLen;omega,by simp[dP],by grind [List.take_of_length_le,dP]⟩⟩
theorem scans_any (ops:List sO) (w:ω) (ao:Option Addr) (cap:Nat) (h:zc4 w ao ops) (hl:I ops<=140737488351232) (hG:Gl w):
 Γ 3 #[τ ao (I ops) cap] w λe w'=>e=ρ (φ true)/\w.u w':=by
 have YV:=(zBr w.t w).alloc bR (Ω #[ι 5,ι 10,ι 11,ι 12] 3);have HP:=zh (plays_any ops [5,10,11,12] (κ w (Ω #[ι 5,ι 10,ι 11,ι 12] 3)) ao cap w.t 4 (h.below YV) hl (kinds_row w [5,10,11,12] zd) zd (upH_of [5,10,11,12] (λo ho=>by simp[yO] at ho;omega) _ (hG.later YV)));clear h hG;go_in;go_wp2_with (first|(have H0:=HP.o;go_at_call 4;refine H0.mono ?_;rintro e w4 ⟨rfl,qu⟩));go_ret
 exact⟨rfl,YV.trans (qu.mono YV.size)⟩
