/- Part of a proof. No condition. -/
import Derived.Test.YtghpmhllpaheiaaGreatDoorF49
import Derived.Test.YtghpmhllpaheiaaGreatDoorF42
set_option linter.unusedVariables false
set_option linter.unusedSimpArgs false
set_option maxRecDepth 100000
set_option maxHeartbeats 4000000
namespace Go.Proofs.YtghpmhllpaheiaaGreatDoor
open Go.RowKit Go.Lib
variable {b N:Nat} {t:TypeId}
structure BothS (w:World) (b:Nat) (T:iP) (D:TD) (S:TS) (R cb tb bc cc br cr bg cg rb:Nat):Prop where
 blk:w.heap[b]?=some (.cells #[aK cb,bJ rb] 235 (0,0))
 cell:w.heap[cb]?=some (.cells #[aK tb] 70 (0,0))
 tab:iW w.heap.size w tb T bc cc br cr bg cg
 ref:fV rb D S w
 same:SameT T D R
def gT (w:World) (b:Nat):Prop:=∃ T D S R cb tb bc cc br cr bg cg rb,BothS w b T D S R cb tb bc cc br cr bg cg rb
theorem gT.below {w w':World} (h:gT w b) (hb:Below w.heap.size w w'):gT w' b:=by
 obtain⟨T,D,S,R,cb,tb,bc,cc,br,cr,bg,cg,rb,h1,h2,h3,h4,h5⟩:=h;exact⟨T,D,S,R,cb,tb,bc,cc,br,cr,bg,cg,rb,(hb.block _ (aA h1)).trans h1,(hb.block _ (aA h2)).trans h2,(h3.below hb).mono hb.size,h4.below hb,h5⟩
section
variable {w w':World} {g:Nat} {cs:Array Value}
structure zdB (w:World) (g:Nat):Prop where
 h0:∀ n,w.cell? ⟨g,0,none⟩≠some (.int .i64 n)
 h3:(∀ n,w.cell? ⟨g,3,none⟩≠some (.int .i64 n))\/(∀ a n c,w.cell? ⟨g,1,none⟩≠some (.slice a n c))\/∀ a n c,w.cell? ⟨g,0,none⟩≠some (.slice a n c)
 ht:∀ cs,w.heap[g]?≠some (.cells cs 21 (0,0))
 hs:∀ b n c,w.cell? ⟨g,0,none⟩=some (.slice (some ⟨b,0,none⟩) n c)->0<n->∀ m,w.cell? ⟨b,0,none⟩≠some (.int .i64 m)
theorem iW.but {B bt R:Nat} {T:iP} {bc cc br cr bg cg:Nat} (h:iW B w bt T bc cc br cr bg cg) (hT:WfT T R) (hg:zdB w g) (hk:∀ b,b≠g->w'.heap[b]?=w.heap[b]?):iW B w' bt T bc cc br cr bg cg:=by
 have key:∀ (b i:Nat),b≠g->w'.cell? ⟨b,i,none⟩=w.cell? ⟨b,i,none⟩:=λb i hb=>by
  unfold World.cell?;rw[hk b hb]
 have Hg:0<T.cU.length:=by
  have:=hT.head;cases hc:T.cU with
  | nil=>rw[hc] at this;cases this
  | cons a l=>simp
 have lh:bt≠g:=by
  rintro rfl
  rcases hg.h3 with h3|h3|h3
  . exact h3 _ h.c3
  . exact h3 _ _ _ h.c1
  exact h3 _ _ _ h.c0
 have M9:br≠g:=by
  rintro rfl;obtain⟨x,hx⟩:∃ x,T.rU[0]?=some x:=⟨_,zLe (by rw[hT.rules];exact hT.some')⟩;exact hg.h0 _ (h.rU 0 x hx)
 have Hb:∀ (b:Nat) (row:List Int),row.length=T.cU.length->(∀ (j:Nat) (x:Int),row[j]?=some x->w.cell? ⟨b,j,none⟩=some (.int .i64 x))->b≠g:=by
  rintro b row hl hr rfl;obtain⟨x,hx⟩:=zG row 0 (by omega);exact hg.h0 _ (hr 0 x hx)
 have AB:bg≠g:=by
  rintro rfl;obtain⟨row,hr⟩:∃ row,T.gO[0]?=some row:=⟨_,zLe hT.some'⟩;have hl:=hT.rows row (zM hr);obtain⟨b,c,h1,h2,h3⟩:=h.gO 0 row hr;obtain⟨x,hx⟩:=zG row 0 (by omega);exact hg.hs b _ c h1 (by omega) _ (h3 0 x hx)
 refine⟨h.lt,by rw[key _ _ lh];exact h.c0,by rw[key _ _ lh];exact h.c1,by rw[key _ _ lh];exact h.c2,by rw[key _ _ lh];exact h.c3,?_,h.ltc,λi x hx=>by rw[key _ _ M9];exact h.rU i x hx,h.ltr,λi row hr=> ?_,h.ltg,h.cap0,h.size⟩
 . obtain⟨rc,hr⟩:=h.cU
   have hb:bc≠g:=by
    rintro rfl;exact hg.ht _ hr
   exact⟨rc,(hk bc hb).trans hr⟩
 obtain⟨b,c,h1,h2,h3⟩:=h.gO i row hr
 have hb:=Hb b row (hT.rows row (zM hr)) h3;exact⟨b,c,by rw[key _ _ AB];exact h1,h2,λj x hx=>by rw[key _ _ hb];exact h3 j x hx⟩
theorem zfI (hA:w.heap[g]?=some (.cells cs 9 (0,0))) (hs:∀ v∈cs.toList,∃ s,v=Value.string s):zdB w g:=by
 have key:∀ (i:Nat) (v:Value),w.cell? ⟨g,i,none⟩=some v->∃ s,v=.string s:=λi v hv=>by
  rw[aB _ _ i _ _ _ hA] at hv;exact hs v (by rw[Array.mem_toList_iff];exact Array.mem_of_getElem? hv)
 refine⟨λn h=> ?_,.inl λn h=> ?_,λcs2 h=> ?_,λb n c h=> ?_⟩
 . obtain⟨s,e⟩:=key _ _ h;cases e
 . obtain⟨s,e⟩:=key _ _ h;cases e
 . exact absurd (eE hA h) (by decide)
 obtain⟨s,e⟩:=key _ _ h;cases e
theorem fV.but {rb:Nat} {D:TD} {S:TS} (h:fV rb D S w) (hA:w.heap[g]?=some (.cells cs t (0,0))) (ht:t≠277/\t≠299/\t≠304/\t≠3/\t≠39) (hk:∀ b,b≠g->w'.heap[b]?=w.heap[b]?):fV rb D S w':=by
 have hi:=ht.2.2.2.1.symm;have hj:=ht.2.2.2.2.symm;exact⟨(hk rb (by rintro rfl;exact absurd (eE hA h.blk) ht.1)).trans h.blk,bW h.rR hA ht.2.1.symm hk,λp hp=>bW (h.rr p hp) hA ht.2.2.1.symm hk,bW h.lR hA hi hk,bW h.fR hA hj hk,λi v hv=>bW (h.fli i v hv) hA hi hk,
  bW h.crow hA hi hk,bW h.srow hA hj hk,λi v hv=>bW (h.sli i v hv) hA hi hk,bW h.grow hA hj hk,λi v hv=>bW (h.gli i v hv) hA hi hk,h.a1,h.a2⟩
theorem gT.but (h:gT w b) (hA:w.heap[g]?=some (.cells cs t (0,0))) (ht:t≠277/\t≠299/\t≠304/\t≠3/\t≠39) (Yv:t≠235/\t≠70) (hg:zdB w g)
 (hk:∀ b,b≠g->w'.heap[b]?=w.heap[b]?) (hz:w.heap.size<=w'.heap.size):gT w' b:=by
 obtain⟨T,D,S,R,cb,tb,bc,cc,br,cr,bg,cg,rb,h1,h2,h3,h4,h5⟩:=h;exact⟨T,D,S,R,cb,tb,bc,cc,br,cr,bg,cg,rb,(hk b (by rintro rfl;exact absurd (eE hA h1) Yv.1)).trans h1,(hk cb (by rintro rfl;exact absurd (eE hA h2) Yv.2)).trans h2,(h3.but h5.wf hg hk).mono hz,h4.but hA ht hk,h5⟩
theorem sG.oth {v:Value} {e:Nat} {i k:Int} (h:sG w v e i k) (hA:w.heap[g]?=some (.cells cs 9 (0,0))) (hk:∀ b,b≠g->w'.heap[b]?=w.heap[b]?):sG w' v e i k:=by
 cases h with
 | none=>exact .none
 | num e h=>exact .num e h
 | fault b e i k h hf=>exact .fault b e i k h ((hk b (by rintro rfl;exact absurd (eE hf hA) (by decide))).trans hf)
end
def CpdO (w:World) (e:Ending) (w':World):Prop:=Below w.heap.size w w'/\(e=.returned (.tuple #[.pointer none,.bool true])\/∃ b,e=.returned (.tuple #[bJ b,.bool true])/\gT w' b)
theorem hand_str (sT:List ByteArray):∀ v∈((sT.map Value.string++[Value.string gX,Value.string gX]).toArray).toList,∃ s,v=Value.string s:=by
 intro v hv;have hv:v∈sT.map Value.string++[Value.string gX,Value.string gX]:=hv
 rcases List.mem_append.1 hv with h|h
 . obtain⟨x,_,rfl⟩:=List.mem_map.1 h
   exact⟨x,rfl⟩
 simp only[List.mem_cons,List.not_mem_nil,or_false,or_self] at h
 exact⟨_,h⟩
theorem zbN {w w':World} {g:Nat} (h:w.grownBy w' (some g)) (hz:w'.heap.size=w.heap.size):∀ b,b≠g->w'.heap[b]?=w.heap[b]?:=λb hb=>by
 rcases zLg b w.heap.size with h1|h1
 . exact h.block b h1 (λe=>hb (zO e))
 rw[Array.getElem?_eq_none h1,Array.getElem?_eq_none (by omega)]
theorem zcM (sT:List ByteArray) (w:World) (v:Value) (Hb:w.ownsRow 0 9 1 v sT.length (sT.map Value.string)) (hl:sT.length<=900000) (hG:Gl w):
 Calls Tryz.prog 88 #[v] w (CpdO w):=by
 have OV:=ver_total sT w v Hb hl hG.pos;have EO:=zh (zfA sT w v Hb hl);have qk:=zh Hb;have tK:=zh hG;obtain⟨ao,cap,hv⟩:=bM Hb;rw[hv] at EO qk ⊢;have Va:=zh hl;clear Hb hG hv hl
 rcases OV with⟨er,i,k,hV,hvp⟩|⟨ts,M,rU,gO,Hv,hvp⟩
 . have HV:=zh hV
   have Me:=zh hvp;clear hV hvp;go_enter Tryz.func88,Tryz.ntmps88;go_upto_region 2 with (go_at_call 102;refine EO.o.mono ?_;rintro e w1 ⟨g,rfl,d8,Qv,Hk⟩;have H1:=zh (zAi d8 (zAi Qv Hk));clear d8 Qv Hk)
   have HC:=zh (zfq HV.o w1 g _ (zb8 H1.o.1 Va.o) Va.o (tK.o.later H1.o.2.2));go_upto_region 3 with (go_at_call 24;refine HC.o.mono ?_;rintro e w2 ⟨Hr,CZ,x2,rfl,QP⟩;have H2:=zh (zAi Hr (zAi CZ QP));clear Hr CZ QP)
   have Qh:=gU H1.o.2.2 H2.o.1 H1.o.2.2.size;have TH:zbn w2 g sT:=(H2.o.1.block g (aA H1.o.1)).trans H1.o.1;have HS:=zh (zdv sT w2 g _ TH (aZ qk.o Qh) Va.o);have TW:=zh Qh;have IC:=zh TH;clear Qh TH;go_upto_region 4 with (go_at_call 103;refine HS.o.mono ?_;rintro e w3 ⟨rfl,Q4,J4⟩;have H3:=zh (zAi Q4 (zbN Q4 J4));clear Q4 J4)
   have Qi:Below w.heap.size w w3:=TW.o.grown H3.o.1 TW.o.size (λg2 hg=>by cases hg;exact H1.o.2.1);have HR:=zh (ref_any sT w3 _ (aZ qk.o Qi) Va.o (by have:=tK.o.pos;have:=Qi.size;omega));rw[Me.o] at HR;have Ul:=zh (H2.o.2.2.oth IC.o H3.o.2);have tH:=zh Qi;clear Qi;go_upto_region 5 with (go_at_call 104;refine HR.o.mono ?_;rintro e w4 ⟨Qa,rfl⟩;have H4:=zh Qa;clear Qa)
   have Qa:=gU tH.o H4.o tH.o.size;have HT:=zh (zaN (Ul.o.below H4.o) (tK.o.later Qa).err (tK.o.later Qa).pos (.inr ⟨rfl,rfl⟩));have Yn:=zh Qa;have So:¬ (er:Int)=0:=by have:=H2.o.2.1;omega
   have CZ:((er:Int) != 0)=true:=by simp;omega
   clear Qa;go_wp2_with (first|(go_at_call 105;refine HT.o.mono ?_;rintro e w5 ⟨rfl,Yq⟩;have H5:=zh Yq;clear Yq));refine bodyPost_ret (v:=.tuple #[.pointer none,.bool true]) (by simp[results,Tryz.results88,go_sem]) rfl ?_;exact⟨gU Yn.o H5.o Yn.o.size,.inl rfl⟩
 obtain⟨T,hT⟩:=tab_of Hv
 have QB:=zh Hv;have mz:=zh hT;have Me:=zh hvp;clear Hv hT hvp;go_enter Tryz.func88,Tryz.ntmps88;go_upto_region 2 with (go_at_call 102;refine EO.o.mono ?_;rintro e w1 ⟨g,rfl,d8,Qv,Hk⟩;have H1:=zh (zAi d8 (zAi Qv Hk));clear d8 Qv Hk)
 have HC:=zh (cmp_of_ok QB.o mz.o w1 g _ (zb8 H1.o.1 Va.o) (tK.o.later H1.o.2.2));go_upto_region 3 with (go_at_call 24;refine HC.o.mono ?_;rintro e w2 ⟨Hr,cb,tb,bc,cc,br,cr,bg,cg,rfl,Je,Yv,_,_⟩;have H2:=zh (zAi Hr (zAi Je Yv));clear Hr Je Yv)
 have Qh:=gU H1.o.2.2 H2.o.1 H1.o.2.2.size;have TH:zbn w2 g sT:=(H2.o.1.block g (aA H1.o.1)).trans H1.o.1;have HS:=zh (zdv sT w2 g _ TH (aZ qk.o Qh) Va.o);have TW:=zh Qh;have IC:=zh TH;clear Qh TH;go_upto_region 4 with (go_at_call 103;refine HS.o.mono ?_;rintro e w3 ⟨rfl,Q4,J4⟩;have H3:=zh (zAi Q4 (zAi (zbN Q4 J4) J4));clear Q4 J4)
 have Qi:Below w.heap.size w w3:=TW.o.grown H3.o.1 TW.o.size (λg2 hg=>by cases hg;exact H1.o.2.1);have HR:=zh (ref_any sT w3 _ (aZ qk.o Qi) Va.o (by have:=tK.o.pos;have:=Qi.size;omega));rw[Me.o] at HR;have AJ:=(H3.o.2.1 cb (by rintro rfl;exact absurd (eE H2.o.2.1 IC.o) (by decide))).trans H2.o.2.1;have VX:=H2.o.2.2.but mz.o.wf (zfI IC.o (hand_str sT)) H3.o.2.1;rw[<-H3.o.2.2] at VX;have Ul:=zh (zAi AJ VX);have tH:=zh Qi;clear Qi AJ VX
 go_upto_region 5 with (go_at_call 104;refine HR.o.mono ?_;rintro e w4 ⟨Qa,rb,D,S,Dt,C8,rfl,Jy⟩;have H4:=zh (zAi Qa (zAi Dt Jy));clear Qa Dt Jy C8)
 unfold bJ;have Qa:=gU tH.o H4.o.1 tH.o.size;have HT:=zh (zaN (w:=w4) (i2:=0) (k2:=0) .none (tK.o.later Qa).err (tK.o.later Qa).pos (.inl rfl));have Yn:=zh Qa;clear Qa;go_wp2_with (first|(go_at_call 105;refine HT.o.mono ?_;rintro e w5 ⟨rfl,Yq⟩;have H5:=zh Yq;clear Yq));refine bodyPost_ret (v:=.tuple #[bJ w5.heap.size,.bool true]) (by simp[results,Tryz.results88,go_sem,bJ]) rfl ?_;have Yq:=gU Yn.o H5.o Yn.o.size
 have FR:=gU H4.o.1 H5.o H4.o.1.size;have yd:=(zBr _ w5).alloc (zR _) (.cells #[aK cb,bJ rb] 235);have B4:=gU FR yd FR.size;refine⟨gU Yq yd Yq.size,.inr ⟨w5.heap.size,rfl,T,D,S,sT.length,cb,tb,bc,cc,br,cr,bg,cg,rb,bR _ _ _ rfl,(B4.block _ (aA Ul.o.1)).trans Ul.o.1,(Ul.o.2.below B4).mono B4.size,H4.o.2.1.below (gU H5.o yd H5.o.size),H4.o.2.2 sT T mz.o⟩⟩
section
variable {w w':World} {wb g:Nat} {X:Wld} {vR vP vT vS:Value}
theorem zda {last:ByteArray} {l:List ByteArray} (hA:w.heap[wb]?=some (.cells #[vR,vP,vT,vS,.string last] 172 (0,0))) (hr:w.ownsRow 0 9 1 vR l.length (l.map Value.string)) (hs:∃ ao n cap,vS=.slice ao n cap):zdB w wb:=by
 obtain⟨aR,cR,XD⟩:=bM hr;obtain⟨aS,nS,cS,Tw⟩:=hs;have b0:=aB _ _ 0 _ _ _ hA;have b3:=aB _ _ 3 _ _ _ hA;simp only[zLa,zLc,zLb] at b0 b3;refine⟨λn e=> ?_,.inl λn e=> ?_,λcs e=> ?_,λb n c e hn m e2=> ?_⟩
 . rw[b0,XD] at e;cases e
 . rw[b3,Tw] at e;cases e
 . exact absurd (eE hA e) (by decide)
 rw[b0] at e
 have hv:=zO e;rw[hv] at hr
 rcases bD hr with⟨e3,_⟩|⟨g2,Vr,e3,_⟩
 . cases e3
 cases e3
 obtain⟨s,hs⟩:=zG l 0 hn;have h9:=aE hr 0 (.string s) (by rw[List.getElem?_map,hs];rfl);rw[h9] at e2;cases e2
theorem kG.noTab (h:kG w wb X vR vP vT vS):zdB w wb:=zda h.blk h.rr (by obtain⟨a,c,e⟩:=bM h.rs;exact⟨a,_,c,e⟩)
theorem zdT (h:w.grownBy w' (some g)) (hg:g<w.heap.size):∃ w2:World,(∀ b,b≠g->w2.heap[b]?=w.heap[b]?)/\w2.heap.size=w.heap.size/\Below w2.heap.size w2 w':=by
 have hz:=h.size;refine⟨{w with heap:=w.heap.setIfInBounds g (w'.heap[g]'(by omega))},λb hb=> ?_,by simp,⟨h.os,h.tape,h.output,by simpa using hz,λk hk=> ?_⟩⟩
 . show (w.heap.setIfInBounds g _)[b]?=_
   rw[Array.getElem?_setIfInBounds_ne (Ne.symm hb)]
 have yi:k<w.heap.size:=by simpa using hk
 show _=(w.heap.setIfInBounds g _)[k]?;by_cases e:k=g
 . subst e
   rw[Array.getElem?_setIfInBounds_self_of_lt yi,Array.getElem?_eq_getElem]
 rw[Array.getElem?_setIfInBounds_ne (Ne.symm e)]
 exact h.block k yi (λe2=>e (zO e2))
theorem gT.ext {cs:Array Value} (h:gT w b) (hA:w.heap[g]?=some (.cells cs t (0,0))) (ht:t≠277/\t≠299/\t≠304/\t≠3/\t≠39) (Yv:t≠235/\t≠70) (hn:zdB w g) (hg:w.grownBy w' (some g)):gT w' b:=by
 obtain⟨w2,h1,h2,h3⟩:=zdT hg (aA hA);exact (h.but hA ht Yv hn h1 (by omega)).below h3
theorem noTab_ptr {cs:Array Value} {a:Option Addr} (hA:w.heap[g]?=some (.cells cs t (0,0))) (ht:t≠21) (h0:w.cell? ⟨g,0,none⟩=some (.pointer a)):zdB w g:=
 ⟨λn e=>(by rw[h0] at e;cases e),.inr (.inr λa n c e=>(by rw[h0] at e;cases e)),λcs2 e=>ht (eE hA e),λb n c e=>(by rw[h0] at e;cases e)⟩
structure Inv (N:Nat) (w:World) (wb:Nat) (X:Wld):Prop where
 wld:∃ vR vP vT vS,kG w wb X vR vP vT vS/\∀ g,vT.ownBlock=some g->N<=g
 both:∀ b∈X.ts,gT w b
 low:N<=wb
theorem Inv.below (h:Inv N w wb X) (hb:Below w.heap.size w w'):Inv N w' wb X:=by
 obtain⟨⟨vR,vP,vT,vS,h1,h4⟩,h2,h3⟩:=h;exact⟨⟨vR,vP,vT,vS,h1.below hb,h4⟩,λb hm=>(h2 b hm).below hb,h3⟩
theorem Inv.own {o:pC} {Y:Wld} (hB:∀ b∈X.ts,gT w b) (hN:N<=wb) (hT:∀ g,vT.ownBlock=some g->N<=g) (hW:kG w wb X vR vP vT vS) {e:Ending} (hO:OwnO o wb X vT vS w e w') (hY:ownP o X=some Y):e=.returned (.bool true)/\w.grownBy w' (some wb)/\Inv N w' wb Y:=by
 obtain⟨hg,⟨h1,_⟩|⟨Y2,vR2,vP2,h1,h2,h3⟩⟩:=hO
 . rw[hY] at h1;cases h1
 rw[hY] at h1
 cases h1;have ht:Y.ts=X.ts:=by
  unfold ownP at hY
  repeat' split at hY
  all_goals first|(cases hY;rfl)|cases hY
 exact⟨h2,hg,⟨vR2,vP2,vT,vS,h3,hT⟩,λb hm=>(hB b (by rw[<-ht];exact hm)).ext hW.blk (by decide) (by decide) hW.noTab hg,hN⟩
theorem own_more {o:pC} {Y:Wld} (hY:ownP o X=some Y):Y.sT.length<=X.sT.length+1/\Y.pcs.length<=X.pcs.length+1/\Y.ts.length<=X.ts.length+1:=by
 unfold ownP at hY
 repeat' split at hY
 all_goals first|(cases hY;simp)|cases hY
end
theorem zdE (b:Nat) (w:World) (h:gT w b):Calls Tryz.prog 108 #[bJ b] w λe w'=>e=.returned (.bool true)/\w'=w:=by
 obtain⟨T,D,S,R,cb,tb,bc,cc,br,cr,bg,cg,rb,h1,h2,h3,h4,h5⟩:=h;have c0:=aB _ _ 0 _ _ _ h1;have c1:=aB _ _ 1 _ _ _ h1;simp only[zLa,zLc,zLb] at c0 c1;have c6:=h4.cells.2.2.2.2.2.2;rw[h5.eq] at c6;have l1:=aA h1;have l4:=h4.lt;have HB:=zh (zfm cb tb _ T bc cc br cr bg cg w h2 h3);unfold bJ at c1 ⊢;clear h1 h2 h3 h4 h5;generalize T.bound=z at c6 HB;go_enter Tryz.func108,Tryz.ntmps108;go_wp2_with (go_at_call 18;refine HB.o.mono ?_;rintro e w1 ⟨rfl,rfl⟩)
 go_ret;exact⟨rfl,rfl⟩
theorem onT_any (o:pC) (ho:o.Ok) (hk:o.kind≠7/\o.kind≠10) (w:World) (wb:Nat) (X:Wld) (vR vP vT vS:Value) (h:kG w wb X vR vP vT vS) (hb:∀ b∈X.ts,gT w b) (hl:X.ts.length<=900000):
 Calls Tryz.prog 93 #[bJ wb,.agg o.cells] w λe w'=>e=.returned (.bool true)/\Below w.heap.size w w':=by
 obtain⟨kind,x,a,b,s⟩:=o;have hk7:¬ kind=7:=hk.1;have ZB:¬ kind=10:=hk.2;obtain⟨aT,cT,DP⟩:=bM h.rt;have b2:=aB _ _ 2 _ _ _ h.blk;simp only[zLa,zLc,zLb] at b2;rw[DP] at b2;have lb:=aA h.blk;have Ya:=(zBr w.heap.size w).alloc (zR _) (.cells #[.int .i64 kind,.int .i64 x,.int .i64 a,.int .i64 b,.string s] 107);have KA:=zh Ya;have HH:=zh h.rt;have na:=zh hb;have HO:=zh ho;have RB:=zh DP;have Va:=zh hl
 unfold bJ pC.cells;clear h hb Ya hk ho DP hl;by_cases hn:X.ts.length=0
 . have hz:((X.ts.length:Int)==0)=true:=by rw[hn];rfl
   clear hn;go_enter Tryz.func93,Tryz.ntmps93;go_wp2_with (fail);go_ret;exact⟨rfl,KA.o⟩
 have VL:0<X.ts.length:=by omega
 have hz:((X.ts.length:Int)==0)=false:=beq_eq_false_iff_ne.2 (by omega);have Qj:=zh (λw=>za0 x X.ts.length HO.o.x VL (by have:=Va.o;omega) w);have hj:oU x X.ts.length<X.ts.length:=Nat.mod_lt _ VL;generalize oU x X.ts.length=j at Qj hj;obtain⟨tb,tB⟩:=zG X.ts j hj;have Hb:=HH.o;obtain⟨g,rfl⟩:∃ g,aT=some ⟨g,0,none⟩:=by
  rcases bD Hb with⟨e,h0⟩|⟨g,cap,e,_⟩
  . omega
  rw[RB.o] at e
  cases e;exact⟨g,rfl⟩
 rw[RB.o] at Hb;have cg:=aE Hb j (bJ tb) (by rw[List.getElem?_map,tB];rfl);have lg:=(Hb.lt g rfl).2;have zj:(j:Int)<(X.ts.length:Int):=by omega
 have wU:=zh (na.o tb (zM tB));unfold bJ at cg;clear Hb tB hn hj;go_enter Tryz.func93,Tryz.ntmps93;go_upto_region 3 with (fail)
 go_quiet ((go_at_call 89;exact Calls.quiet_of_same (Qj.o _)));have QO:Below w.heap.size w ((w.alloc (.cells #[.int .i64 kind,.int .i64 x,.int .i64 a,.int .i64 b,.string s] 107)).drewN nq):=aV KA.o nq;have q0:((w.alloc (.cells #[.int .i64 kind,.int .i64 x,.int .i64 a,.int .i64 b,.string s] 107)).drewN nq).heap[w.heap.size]?=some (.cells #[.int .i64 kind,.int .i64 x,.int .i64 a,.int .i64 b,.string s] 107 (0,0)):=bR _ _ _ rfl;have k0:=aB _ _ 0 _ _ _ q0;simp only[zLa,zLc,zLb] at k0
 have l0:=aA q0;have xj:=zh QO;clear QO q0;generalize (w.alloc (.cells #[.int .i64 kind,.int .i64 x,.int .i64 a,.int .i64 b,.string s] 107)).drewN nq=w2 at*;have YP:=zh (zdE tb w2 (wU.o.below xj.o));unfold bJ at YP;by_cases k6:kind=6
 . go_wp2_with (go_at_call 108;refine YP.o.mono ?_;rintro e w1 ⟨rfl,rfl⟩)
   go_ret;exact⟨rfl,xj.o⟩
 go_wp2_with (fail)
 go_ret;exact⟨rfl,xj.o⟩
theorem elemTs:eY Tryz.prog 169 218 1 8:=eY.of (z:=.pointer none) Tryz.underlying169 (by kernel_rfl) rfl (by decide)
section
variable {w w2:World} {wb:Nat} {X:Wld} {vR vP vT vS v3:Value}
theorem Inv.putT {ob:Obj} (hW:kG w wb X vR vP vT vS) (hB:∀ c∈X.ts,gT w c) (hN:N<=wb) (I5:N<=w.heap.size) (hT:∀ g,vT.ownBlock=some g->N<=g) (hb:gT w b) (Hb:w2.ownsRow 0 218 1 v3 (X.ts.length+1) (X.ts.map bJ++[bJ b])) (hg:(w.alloc ob).grownBy w2 vT.ownBlock)
 (Hz:v3.ownBlock=vT.ownBlock\/v3.ownBlock=some (w.alloc ob).heap.size):Inv N (w2.setCell ⟨wb,2,none⟩ v3) wb {X with ts:=X.ts++[b]}/\Below N w (w2.setCell ⟨wb,2,none⟩ v3):=by
 have Ya:=(zBr w.heap.size w).alloc (zR _) ob;have KR:=hW.below Ya;have qo:∀ g,vT.ownBlock=some g->∃ cs,(w.alloc ob).heap[g]?=some (.cells cs 218 (0,0)):=λg e=>dK KR.rt e;have keep:∀ {e:TypeId} {size n:Nat} {u:Value} {xs:List Value},(w.alloc ob).ownsRow 0 e size u n xs->e≠218->w2.ownsRow 0 e size u n xs:=λhr he=>aU hr λg2 qf=>hg.block g2 (hr.lt g2 qf).2 (λe2=>by
  obtain⟨c1,h1⟩:=dK hr qf;obtain⟨c2,h2⟩:=qo g2 e2.symm;exact he (eE h1 h2))
 have blk2:w2.heap[wb]?=some (.cells #[vR,vP,vT,vS,.string X.last] 172 (0,0)):=(hg.block wb KR.lt (λe=>by
  obtain⟨cs,h1⟩:=qo wb e.symm;exact absurd (eE h1 KR.blk) (by decide))).trans KR.blk
 have rr2:=keep KR.rr (by decide);have rp2:=keep KR.rp (by decide);have rs2:=keep KR.rs (by decide);have oth:∀ {e:TypeId} {size n:Nat} {u:Value} {xs:List Value},w2.ownsRow 0 e size u n xs->e≠172->(w2.setCell ⟨wb,2,none⟩ v3).ownsRow 0 e size u n xs:=λhr he=>bW hr blk2 he λg hg=>aG _ _ _ _ hg;have Hr:∀ c,gT w c->gT w2 c:=λc hc=>by
  have hc:=hc.below Ya;cases ho:vT.ownBlock with
  | none=>rw[ho] at hg;exact hc.below ((zBr _ _).grown hg (zR _) (λk h=>by cases h))
  | some g=>
   rw[ho] at hg;obtain⟨cs,h1⟩:=qo g ho;have hn:X.ts≠[]:=λe=>by rw[hW.tn e] at ho;cases ho
   obtain⟨t0,DD⟩:∃ t0,X.ts[0]?=some t0:=⟨_,zLe (List.length_pos_iff.2 hn)⟩;have h0:(w.alloc ob).cell? ⟨g,0,none⟩=some (bJ t0):=by
    have hr:=KR.rt
    rcases bD hr with⟨e,_⟩|⟨g2,cap,e,_⟩
    . rw[e] at ho;cases ho
    rw[e] at ho hr
    cases ho;exact aE hr 0 _ (by rw[List.getElem?_map,DD];rfl)
   exact hc.ext h1 (by decide) (by decide) (noTab_ptr h1 (by decide) h0) hg
 have xo:=zda blk2 rr2 (by obtain⟨a,c,e⟩:=bM hW.rs;exact⟨a,_,c,e⟩);have Qi:∀ c,gT w c->gT (w2.setCell ⟨wb,2,none⟩ v3) c:=λc hc=>(Hr c hc).ext blk2 (by decide) (by decide) xo (eO _ wb 2 _);refine⟨⟨⟨vR,vP,v3,vS,⟨by rw[aC _ wb 2 _ _ _ _ blk2];rfl,oth rr2 (by decide),oth rp2 (by decide),oth (by simpa using Hb) (by decide),oth rs2 (by decide),λe=>by simp at e,hW.sn⟩,λg e=> ?_⟩,λc hc=> ?_,hN⟩,?_⟩
 . rcases Hz with h|h
   . exact hT g (by rw[<-h];exact e)
   rw[h] at e;cases e;simp;omega
 . rcases List.mem_append.1 hc with h|h
   . exact Qi c (hB c h)
   rw[zMs] at h;subst h;exact Qi c hb
 exact ((Ya.mono I5).grown hg (by simp;omega) hT).setCell (p:=(⟨wb,2,none⟩:Addr)) hN _
theorem keep_wb {ob:Obj} (hW:kG w wb X vR vP vT vS) (hg:(w.alloc ob).grownBy w2 vT.ownBlock):w2.heap[wb]?=some (.cells #[vR,vP,vT,vS,.string X.last] 172 (0,0)):=by
 have KR:=hW.below ((zBr w.heap.size w).alloc (zR _) ob);exact (hg.block wb KR.lt (λe=>by
  obtain⟨cs,h1⟩:=dK KR.rt e.symm;exact absurd (eE h1 KR.blk) (by decide))).trans KR.blk
end
def StepO (N wb:Nat) (X:Wld) (w:World) (e:Ending) (w':World):Prop:=e=.returned (.bool true)/\Below N w w'/\∃ Y,Inv N w' wb Y/\Y.sT.length<=X.sT.length+1/\Y.pcs.length<=X.pcs.length+1/\Y.ts.length<=X.ts.length+1
theorem step_any (o:pC) (ho:o.Ok) (hk:o.kind<=6) (N:Nat) (w:World) (wb:Nat) (X:Wld) (hI:Inv N w wb X) (hG:Gl w) (hN:mN<=N) (hl:X.sT.length<=800000/\X.pcs.length<=800000/\X.ts.length<=800000):
 Calls Tryz.prog 71 #[bJ wb,.agg o.cells] w (StepO N wb X w):=by
 obtain⟨⟨vR,vP,vT,vS,hW,hT⟩,hB,K3⟩:=hI;have Ya:=(zBr w.heap.size w).alloc (zR _) (.cells o.cells 107);have I5:N<=w.heap.size:=by have:=hW.lt;omega
 have KR:=hW.below Ya;have u7:=zh (owner_any o ho _ wb X vR vP vT vS KR (by omega));have Nq:∀ b∈X.ts,gT (w.alloc (.cells o.cells 107)) b:=λb hm=>(hB b hm).below Ya;have lb:=hW.lt;have IP:=zh (zAi KR (zAi Nq hT));have KA:=zh (Ya.mono I5);have HN:=zh (zAi hN (zAi I5 K3));have HL:=zh hl;have HO:=zh ho;have CE:=zh (hG.later Ya);cases hx:ownP o X with
 | some Y=>
  have HC:zH (Calls Tryz.prog 87 #[bJ wb,.agg o.cells] (w.alloc (.cells o.cells 107)) λe w'=>e=.returned (.bool true)/\(w.alloc (.cells o.cells 107)).grownBy w' (some wb)/\Inv N w' wb Y):=
   zh (u7.o.mono λe w' h=>Inv.own Nq K3 hT KR h hx)
  have HM:=zh (own_more hx);obtain⟨kind,x,a,b,s⟩:=o;clear hx hW hB Nq KR Ya hT hl ho hG u7;unfold bJ pC.cells at HC ⊢;unfold pC.cells at KA;go_enter Tryz.func71,Tryz.ntmps71;go_wp2_with (first|(go_at_call 87;refine HC.o.mono ?_;rintro e w1 ⟨rfl,Qv,d9⟩;have H1:=zh (zAi Qv d9);clear Qv d9));go_ret;exact⟨rfl,KA.o.grown H1.o.1 (zT HN.o.2.1 KA.o.size) (λk e=>by cases e;exact HN.o.2.2),Y,H1.o.2,HM.o⟩
 | none=>
  have HC:zH (Calls Tryz.prog 87 #[bJ wb,.agg o.cells] (w.alloc (.cells o.cells 107)) λe w'=>e=.returned (.bool false)/\Below (w.alloc (.cells o.cells 107)).heap.size (w.alloc (.cells o.cells 107)) w'):=
   zh (u7.o.mono (by
    rintro e w' ⟨_,⟨_,h1,h2⟩|⟨Y,_,_,h1,_⟩⟩
    . exact⟨h1,h2⟩
    rw[hx] at h1;cases h1))
  obtain⟨kind,x,a,b,s⟩:=o;have k6:kind<=6:=hk;have k8:¬ kind=8:=by omega
  have k9:¬ kind=9:=by omega
  have k11:¬ kind=11:=by omega
  have k12:¬ kind=12:=by omega
  have XZ:=zh k6;clear hx hW hB Nq KR Ya hT hl ho hG u7 hk k6;unfold bJ pC.cells at HC ⊢;unfold pC.cells at KA IP CE;go_enter Tryz.func71,Tryz.ntmps71;go_upto_region 4 with (go_at_call 87;refine HC.o.mono ?_;rintro e w1 ⟨rfl,Hk⟩;have Kb:=zh Hk;clear Hk)
  have Up:=IP.o.1.below Kb.o;have t7:∀ b∈X.ts,gT w1 b:=λb hm=>(IP.o.2.1 b hm).below Kb.o;have IZ:=CE.o.later Kb.o;have MY:Below N w w1:=KA.o.trans (Kb.o.mono (zT HN.o.2.1 KA.o.size));have XR:w1.heap[w.heap.size]?=some (.cells #[.int .i64 kind,.int .i64 x,.int .i64 a,.int .i64 b,.string s] 107 (0,0)):=(Kb.o.block _ (by simp)).trans (bR _ _ _ rfl);obtain⟨n0,Yj⟩:=zE (w.heap.size);rw[<-Yj] at XR ⊢;have p0:=aB _ _ 0 _ _ _ XR;have p1:=aB _ _ 1 _ _ _ XR
  have p2:=aB _ _ 2 _ _ _ XR;have p3:=aB _ _ 3 _ _ _ XR;have p4:=aB _ _ 4 _ _ _ XR;obtain⟨aR,cR,XD⟩:=bM Up.rr;obtain⟨aT,cT,DP⟩:=bM Up.rt;have b0:=aB _ _ 0 _ _ _ Up.blk;have b2:=aB _ _ 2 _ _ _ Up.blk;simp only[zLa,zLc,zLb] at p0 p1 p2 p3 p4 b0 b2;rw[XD] at b0 Up;rw[DP] at b2 Up;have lw:=Up.lt;have HT:=zh (λg (e:(Value.slice aT X.ts.length cT).ownBlock=some g)=>IP.o.2.2 g (by rw[DP];exact e))
  have H1:=zh (zAi Up (zAi t7 (zAi IZ MY)));have QH:=zh (zT HN.o.2.1 MY.size);have HP:=zh XR;clear Up t7 IZ MY XD DP XR Yj;by_cases k5:kind=5
  . subst k5
    have Iy:zH (Calls Tryz.prog 88 #[.slice aR X.sT.length cR] w1 λe w'=>Below w1.heap.size w1 w'/\∃ p:Option Addr,e=.returned (.tuple #[.pointer p,.bool true])/\(p=none\/∃ b,p=some ⟨b,0,none⟩/\gT w' b)):=
     zh ((zcM X.sT w1 _ H1.o.1.rr (by have:=HL.o.1;omega) H1.o.2.2.1).mono (by
      rintro e w' ⟨h1,h2|⟨b,h2,h3⟩⟩
      . exact⟨h1,none,h2,.inl rfl⟩
      exact⟨h1,_,h2,.inr ⟨b,rfl,h3⟩⟩))
    go_upto_region 7 with (go_at_call 88;refine Iy.o.mono ?_;rintro e w2 ⟨Hr,p,rfl,hp⟩;have YI:=zh Hr;clear Hr)
    have Us:Below N w w2:=H1.o.2.2.2.trans (YI.o.mono QH.o)
    rcases hp with rfl|⟨bn,rfl,Xo⟩
    . have HB:=zh Us
      clear Us;go_wp2_with (fail);go_ret;exact⟨rfl,HB.o,X,⟨⟨_,_,_,_,H1.o.1.below YI.o,HT.o⟩,λb hm=>(H1.o.2.1 b hm).below YI.o,HN.o.2.2⟩,by omega,by omega,by omega⟩
    have MR:=H1.o.1.below YI.o
    have q2:=(aL YI.o ⟨wb,2,none⟩ lw).trans b2;have Ue:=zh MR.rt;have H2:=zh (zAi MR (zAi (λb (hm:b∈X.ts)=>(H1.o.2.1 b hm).below YI.o) (zAi Xo Us)));have yj:X.ts.length+1<=1000000000:=by have:=HL.o.2.2;omega
    clear MR Xo Us
    go_wp2_with (at_builtin;refine dI rfl elemTs rfl (by exact (Ue.o.alloc _)) [.pointer (some ⟨bn,0,none⟩)] yj ?_;intro v3 w3 Cf Pq FX;obtain⟨a3,c3,OR⟩:=bM Cf;subst OR;have G4:=Inv.putT H2.o.1 H2.o.2.1 HN.o.2.2 (by have:=H2.o.2.2.2.size;have:=HN.o.2.1;omega) HT.o H2.o.2.2.1 Cf Pq FX;have AF:=keep_wb H2.o.1 Pq;have q3:=aB _ _ 2 _ _ _ AF;have f3:=aM _ _ 2 _ _ AF;simp only[zLa,zLc,zLb] at q3;have E8:=zh G4;clear Cf Pq FX G4 AF)
    go_ret;exact⟨rfl,H2.o.2.2.2.trans E8.o.2,_,E8.o.1,by show X.sT.length<=_;omega,by show X.pcs.length<=_;omega,by show (X.ts++[bn]).length<=_;simp⟩
  have Ro:=zh (onT_any ⟨kind,x,a,b,s⟩ HO.o ⟨by show kind≠7;have:=XZ.o;omega,by show kind≠10;have:=XZ.o;omega⟩ w1 wb X _ _ _ _ H1.o.1 H1.o.2.1 (by have:=HL.o.2.2;omega))
  unfold bJ pC.cells at Ro;go_wp2_with (first|(go_at_call 93;refine Ro.o.mono ?_;rintro e w2 ⟨rfl,Hr⟩;have YI:=zh Hr;clear Hr));go_ret;exact⟨rfl,H1.o.2.2.2.trans (YI.o.mono QH.o),X,⟨⟨_,_,_,_,H1.o.1.below YI.o,HT.o⟩,λb hm=>(H1.o.2.1 b hm).below YI.o,HN.o.2.2⟩,by omega,by omega,by omega⟩
def StepJ (w0:World) (i:Nat) (w':World):Prop:=∃ X,Inv w0.heap.size w' w0.heap.size X/\Gl w'/\X.sT.length<=i/\X.pcs.length<=i/\X.ts.length<=i/\Below w0.heap.size w0 w'
theorem inv_start (w:World):Inv w.heap.size (w.alloc (.cells #[.slice none 0 0,.slice none 0 0,.slice none 0 0,.slice none 0 0,.string ⟨#[]⟩] 172)) w.heap.size ⟨[],[],[],[],⟨#[]⟩⟩:=
 ⟨⟨_,_,_,_,⟨bR _ _ _ rfl,World.ownsRow_nil _ _ _ _,World.ownsRow_nil _ _ _ _,World.ownsRow_nil _ _ _ _,World.ownsRow_nil _ _ _ _,λ_=>rfl,λ_=>rfl⟩,λg e=>(by cases e)⟩,λb hb=>(by simp at hb),zR _⟩
theorem upH_of (Hy:List Int) (hk:∀ o,qN Hy o=true->o.kind<=6) (w:World) (hG:Gl w):UpH w Hy:=λl w' ao cap hb Oo QN Z7=>by
 have Mz:=hG.later hb;have Ya:=(zBr w'.heap.size w').alloc (zR _) (.cells #[.slice none 0 0,.slice none 0 0,.slice none 0 0,.slice none 0 0,.string ⟨#[]⟩] 172);have UJ:l.length<=16384:=by omega
 refine upTo_any l w' ao cap Oo UJ (StepJ w') ⟨_,inv_start w',Mz.later Ya,zZ _,zZ _,zZ _,Ya⟩ (λi w2 ⟨_,_,_,_,_,_,h⟩=>h) (λi o w2 ho ⟨X,hI,RX,h1,h2,h3,Hr⟩=> ?_);obtain⟨h4,h5⟩:=QN o (zM ho);have hi:=kI ho;refine (step_any o h5 (hk o h4) _ w2 _ X hI RX Mz.size ⟨by omega,by omega,by omega⟩).mono ?_;rintro e w3 ⟨he,Qi,Y,hY,g1,g2,g3⟩;exact⟨he,Y,hY,RX.below Qi Mz.size,by omega,by omega,by omega,Hr.trans Qi⟩
theorem zc3 (w:World) (l:List Int) (hl:l.length<=100):cW (w.alloc (.cells (dE l).toArray 3)) (.slice (some ⟨w.heap.size,0,none⟩) l.length l.length) l:=
 ⟨by simp[dE],.inr ⟨w.heap.size,l.length,_,rfl,zZ _,bR _ _ _ rfl,zR _,by unfold maxLen;omega,by simp[dE],by rw[Nat.mul_one];exact List.take_of_length_le (by simp[dE])⟩⟩
theorem zcN (ops:List pC) (w:World) (ao:Option Addr) (cap:Nat) (h:sQ w ao ops) (hl:ops.length<=140737488351232) (hG:Gl w):
 Calls Tryz.prog 9 #[.slice ao ops.length cap] w λe w'=>e=.returned (.bool true)/\Below w.heap.size w w':=by
 have Ya:=(zBr w.heap.size w).alloc (zR _) (.cells #[.int .i64 5] 3);have HP:=zh (zdj ops [5] (w.alloc (.cells #[.int .i64 5] 3)) ao cap w.heap.size 1 (h.below Ya) hl (zc3 w [5] (by decide)) (by decide) (upH_of [5] (λo ho=>by simp[qN] at ho;omega) _ (hG.later Ya)));have HB:=zh Ya;clear h hG Ya;go_enter Tryz.func9,Tryz.ntmps9;go_wp2_with (first|(go_at_call 27;refine HP.o.mono ?_;rintro e w4 ⟨rfl,Qa⟩;have Yn:=zh Qa;clear Qa));go_ret
 exact⟨rfl,HB.o.trans (Yn.o.mono HB.o.size)⟩
theorem zfo (ops:List pC) (w:World) (ao:Option Addr) (cap:Nat) (h:sQ w ao ops) (hl:ops.length<=140737488351232) (hG:Gl w):
 Calls Tryz.prog 10 #[.slice ao ops.length cap] w λe w'=>e=.returned (.bool true)/\Below w.heap.size w w':=by
 have Ya:=(zBr w.heap.size w).alloc (zR _) (.cells #[.int .i64 5,.int .i64 6] 3);have HP:=zh (zdj ops [5,6] (w.alloc (.cells #[.int .i64 5,.int .i64 6] 3)) ao cap w.heap.size 2 (h.below Ya) hl (zc3 w [5,6] (by decide)) (by decide) (upH_of [5,6] (λo ho=>by simp[qN] at ho;omega) _ (hG.later Ya)));have HB:=zh Ya;clear h hG Ya;go_enter Tryz.func10,Tryz.ntmps10;go_wp2_with (first|(go_at_call 27;refine HP.o.mono ?_;rintro e w4 ⟨rfl,Qa⟩;have Yn:=zh Qa;clear Qa));go_ret
 exact⟨rfl,HB.o.trans (Yn.o.mono HB.o.size)⟩
