/- Part of a proof. No condition. -/
import Derived.RangeFuncNested
import Derived.RangeFuncBound
import Derived.OwnWalkIn
import Derived.TacticsInMore
import Derived.LoopNIn
import Derived.LoopIn
import Derived.Test.YtmfnmkccbldfpaaGreatDoorS23
set_option linter.unusedVariables false
set_option linter.unusedSimpArgs false
set_option maxRecDepth 100000
set_option maxHeartbeats 4000000
namespace Go.Proofs.YtmfnmkccbldfpaaGreatDoor
theorem zzDo {p:Prop} (h:p:=by simp<;>omega):p:=h
theorem zzCQ {p:Prop} (h:p:=by have:=zbM h.row g hg;omega):p:=h
theorem zzCP {p:Prop} (h:p:=by have:=(h.own g hg).1;omega):p:=h
variable {l B size n xb:Nat} {W w:ω} {e:TypeId} {v outv r1 r2:Value} {xs:ζ} {most:Int} {rec:Obj}
section
open Go.RowKit Go.Lib Tryz
attribute [local go_sem] Oper.semAt_some
abbrev recL (fn:FuncId) (tmps:Array Value) (ps:Array Tmp) (assign body:Code) (D:Nat) (st:LoopState) (pe:Option Code):Loop:={state:=st,pending:=pe,fn,tmps,params:=ps,assign,body,defers:=D}
def ypost (l:Nat) (rec:LoopState->Option Code->Loop) (R:Ending->World->Prop):Exit->Act->World->Prop
 | .normal,_,w=>w.heap[l]?=some (.loop (rec .busy none))/\R (ρ (φ true)) (w.putObj l (.loop (rec .ready none)))
 | .ret,_,w=>w.heap[l]?=some (.loop (rec .busy none))/\R (ρ (φ false)) (w.putObj l (.loop (rec .done (some .ret))))
 | .exit id,_,w=>w.heap[l]?=some (.loop (rec .busy none))/\R (ρ (φ false)) (w.putObj l (.loop (rec .done (some (.exit id)))))
 | _,_,_=>False
section
variable {F:Fence} {n:Nat} {P:Program}
theorem yield_own {fn:FuncId} {tmps:Array Value} {ps:Array Tmp} {assign body:Code} {D:Nat} {args:Array Value} {R:Ending->World->Prop} (hF:F.fn fn)
 (hl:W.heap[l]?=some (.loop (recL fn tmps ps assign body D .ready none))) (hs:args.size=ps.size)
 (h:assign.wpIn (F.inRound l) n P (Exit.then (λa1 W2=>W2.heap[l]?=some (.loop (recL fn tmps ps assign body D .ready none))/\body.wpIn (F.inRound l) n P (ypost l (recL fn tmps ps assign body D) R) a1 (W2.putObj l (.loop (recL fn tmps ps assign body D .busy none)))) (λ_ _ _=>False))
  {tmps:=(ps.zip args).foldl (λt (p,v)=>t.setIfInBounds p v) tmps,defers:=[]} W):YieldAt F n P l args W R:=by
 refine⟨fn,_,assign,body,run_yield (P:=P) hl hs,roundIn_of_wpIn hF (wpIn_mono h ?_)⟩;rintro e a1 W2 hp;cases e with
 | normal=>
  obtain⟨h1,h2⟩:=hp;refine⟨_,run_beginRound h1 rfl,wpIn_mono h2 ?_⟩;rintro e a3 W3 hq;cases e with
  | normal=>exact⟨_,_,run_endRound none hq.1,hq.2⟩
  | ret=>exact⟨_,_,run_endRound (some .ret) hq.1,hq.2⟩
  | exit id=>exact⟨_,_,run_endRound (some (.exit id)) hq.1,hq.2⟩
  | goto t=>exact hq.elim
  | panic c=>exact hq.elim
  | outgrown=>exact hq.elim
 | ret=>exact hp.elim
 | exit id=>exact hp.elim
 | goto t=>exact hp.elim
 | panic c=>exact hp.elim
 | outgrown=>exact hp.elim
def rpost (F:Fence) (n:Nat) (P:Program) (l:Nat) (rec:LoopState->Option Code->Loop) (Q:Exit->Act->World->Prop) (a:Act) (e:Ending) (W:ω):Prop:=
 ∃ v st c,e=ρ v/\st≠ .busy/\W.heap[l]?=some (.loop (rec st (some c)))/\c.wpIn F n P Q a (W.putObj l (.loop (rec .exhausted (some c))))
theorem range_own {g:Operand} {ps:Array Tmp} {assign body:Code} {Q:Exit->Act->World->Prop} {a:Act} 
 (SQ:F.round=none) (h1:1<=n) {gf:Nat} {lb:Array Value} (hg:a.eval g=.func (.func gf) #[] lb) (hFg:F.fn gf) (eg:∀ args w,(callFunc gf args).run P w=.ok (.enter gf args) w)
 (h:∀ fn,F.fn fn->CallsIn F (n-1) P gf (#[.func (.yield (w.t+1)) #[] #[]]++lb) (κ (κ w (.deferred (some []))) (.loop (recL fn a.tmps ps assign body w.t .ready none)))
  (rpost F n P (w.t+1) (recL fn a.tmps ps assign body w.t) Q {a with defers:={target:=.collected w.t,args:=#[]}::a.defers})):
 (Code.rangeFunc g ps assign body).wpIn F n P Q a w:=by
 refine wpIn_rangeFunc ?_;intro fn Dk;rw[SQ];have hc:=h fn Dk;have he:=run_enterLoop_outer (P:=P) (w:=w) fn a.tmps ps assign body;obtain⟨W1,Jw⟩:∃ W1,κ (κ w (.deferred (some []))) (.loop (recL fn a.tmps ps assign body w.t .ready none))=W1:=⟨_,rfl⟩;rw[Jw] at hc;have he':(Instr.enterLoop fn a.tmps ps assign body none).run P w=.ok (w.t+1,[{target:=.collected w.t,args:=#[]}]) W1:=by rw[<-Jw];exact he
 clear he Jw;refine⟨w.t+1,[{target:=.collected w.t,args:=#[]}],W1,{target:=.fn (.func gf) lb,args:=#[.func (.yield (w.t+1)) #[] #[]]},W1,gf,
  #[.func (.yield (w.t+1)) #[] #[]]++lb,W1,he',?_,?_,?_,λ_=>h1,?_⟩
 . simp only[resolve,hg]
   simp[go_sem]
 . grind [Target.leads]
 . simp[invoke,go_sem,eg]
 refine hc.mono ?_
 rintro e W2 ⟨v,st,c,rfl,Hh,hl,hj⟩;have hr:=run_endLoop (P:=P) hl Hh;exact⟨some c,_,hr,hj⟩
end
def fV (l:List Tk):ζ:=l.flatMap λt=>[ι t.rU,ι t.pos,ι t.line,ι t.col,γ t.text]
theorem zcY (l:List Tk) (t:Tk):fV (l++[t])=fV l++[ι t.rU,ι t.pos,ι t.line,ι t.col,γ t.text]:=by simp[fV]
theorem sI {w':ω} (h:w.ownsRow B e size v n xs) (hx:∀ g,β v=some g->w'.e w g):w'.ownsRow B e size v n xs:=by
 exact zzBt
theorem zbM (h:w.ownsRow B e size v n xs):∀ g,β v=some g->B<=g/\g<w.t:=by
 rcases h.2 with⟨rfl,_⟩|⟨g,cap,X0,rfl,hb,At,rest⟩
 . intro g hg;cases hg
 intro g' hg;cases hg;grind
structure zeV (m xb:Nat) (most:Int) (rec:Obj) (outv r1 r2:Value) (W:ω):Prop where
 most:W.h m #[ι most] 3
 r1:W.h (m+1) #[r1] 78
 r2:W.h (m+1+1) #[r2] 51
 o:W.h (m+1+1+1) #[outv] 78
 box:W.h (m+1+1+1+1) #[aF xb] 66
 dd:W.heap[m+1+1+1+1+1]?=some (.deferred (some []))
 ll:W.heap[m+1+1+1+1+1+1]?=some rec
theorem zeV.lt {m:Nat} (h:zeV m xb most rec outv r1 r2 W):m+6<W.t:=aA h.ll
theorem zeV.kept {m:Nat} {W':ω} (h:zeV m xb most rec outv r1 r2 W) (hk:∀ b,m<=b->b<m+7->W'.e W b):zeV m xb most rec outv r1 r2 W':=
 ⟨(hk _ zo zo).trans h.most,(hk _ zo zo).trans h.r1,(hk _ zo zo).trans h.r2,(hk _ zo zo).trans h.o,(hk _ zo zo).trans h.box,(hk _ zo zo).trans h.dd,(hk _ zo zo).trans h.ll⟩
structure gH (B bs bt sb C xb:Nat) (w0:ω) (bv0:Value) (most:Int) (rec:Obj) (bv outv r1 r2:Value) (x:Sc) (toks:List Tk) (W:ω):Prop where
 st:ScX B W bs bt sb C x bv
 keep:iI bs sb bv0 bv w0 W
 box:zeV w0.t xb most rec outv r1 r2 W
 row:W.ownsRow (w0.t+7) 64 5 outv (I toks) (fV toks)
 own:∀ g,β bv=some g->(g<w0.t\/w0.t+7<=g)/\β outv≠some g
 lt:B<=w0.t/\bs<w0.t/\sb<w0.t
section
variable {B bs bt sb C xb:Nat} {w0:ω} {bv0:Value} {most:Int} {rec:Obj} {bv outv r1 r2:Value} {x:Sc} {toks:List Tk} {W W':ω}
theorem gH.gen (h:gH B bs bt sb C xb w0 bv0 most rec bv outv r1 r2 x toks W) {rec':Obj} {outv' r1' r2':Value} {toks':List Tk} (ho:W'.os=W.os/\W'.tape=W.tape/\W'.output=W.output/\W.heap.size<=W'.heap.size)
 (VP:∀ b,b<w0.heap.size->W'.e W b) (MO:∀ g,β bv=some g->W'.e W g) (kw:zeV w0.t xb most rec' outv' r1' r2' W') (Hb:W'.ownsRow (w0.t+7) 64 5 outv' (I toks') (fV toks'))
 (Yb:∀ g,β bv=some g->β outv'≠some g):gH B bs bt sb C xb w0 bv0 most rec' bv outv' r1' r2' x toks' W':=
 ⟨⟨(VP _ h.lt.2.1).trans h.st.sc,h.st.buf.kept MO,h.st.src.below (λb hb=>VP b (zLd hb h.lt.1)),h.st.ok,h.st.bB,h.st.own⟩,
  ⟨ho.1.trans h.keep.os,ho.2.1.trans h.keep.tape,ho.2.2.1.trans h.keep.output,zT h.keep.size ho.2.2.2,λb hb h1 h2 h3=>(VP b hb).trans (h.keep.keep b hb h1 h2 h3),h.keep.new⟩,
  kw,Hb,λg hg=>⟨(h.own g hg).1,Yb g hg⟩,h.lt⟩
theorem gH.alloc (h:gH B bs bt sb C xb w0 bv0 most rec bv outv r1 r2 x toks W) (o:Obj):gH B bs bt sb C xb w0 bv0 most rec bv outv r1 r2 x toks (W.alloc o):=by
 have:=h.box.lt;refine h.gen ⟨rfl,rfl,rfl,zs⟩ (λb hb=>bS _ _ _ zo) (λg hg=>bS _ _ _ (h.st.buf.lt g hg)) (h.box.kept λb _ hb=>bS _ _ _ zo) ?_ (λg hg=>(h.own g hg).2);exact sI h.row λg hg=>bS _ _ _ (zbM h.row g hg).2
theorem gH.put (h:gH B bs bt sb C xb w0 bv0 most rec bv outv r1 r2 x toks W) (o:Obj):gH B bs bt sb C xb w0 bv0 most o bv outv r1 r2 x toks (W.putObj (w0.t+1+1+1+1+1+1) o):=by
 have:=h.box.lt;have hk:∀ b,b≠w0.heap.size+1+1+1+1+1+1->(W.putObj (w0.t+1+1+1+1+1+1) o).e W b:=λb hb=>World.putObj_heap_other hb;refine h.gen ⟨rfl,rfl,rfl,zs⟩ (λb hb=>hk b zo) (λg hg=>hk g zzCP) ?_ (sI h.row λg hg=>hk g zzCQ) (λg hg=>(h.own g hg).2)
 exact⟨(hk _ zo).trans h.box.most,(hk _ zo).trans h.box.r1,(hk _ zo).trans h.box.r2,(hk _ zo).trans h.box.o,(hk _ zo).trans h.box.box,(hk _ zo).trans h.box.dd,World.putObj_heap_same zo⟩
theorem gH.set1 (h:gH B bs bt sb C xb w0 bv0 most rec bv outv r1 r2 x toks W) (v:Value):gH B bs bt sb C xb w0 bv0 most rec bv outv v r2 x toks (W.setCell ⟨w0.t+1,0,none⟩ v):=by
 have hk:∀ b,b≠w0.heap.size+1->(W.setCell ⟨w0.t+1,0,none⟩ v).e W b:=λb hb=>aD _ _ _ _ hb;refine h.gen ⟨rfl,rfl,rfl,zs⟩ (λb hb=>hk b zo) (λg hg=>hk g zzCP) ?_ (sI h.row λg hg=>hk g zzCQ) (λg hg=>(h.own g hg).2)
 exact⟨(hk _ zo).trans h.box.most,aB _ _ 0 _ _ _ _ h.box.r1,(hk _ zo).trans h.box.r2,(hk _ zo).trans h.box.o,(hk _ zo).trans h.box.box,(hk _ zo).trans h.box.dd,(hk _ zo).trans h.box.ll⟩
theorem gH.set2 (h:gH B bs bt sb C xb w0 bv0 most rec bv outv r1 r2 x toks W) (v:Value):gH B bs bt sb C xb w0 bv0 most rec bv outv r1 v x toks (W.setCell ⟨w0.t+1+1,0,none⟩ v):=by
 have hk:∀ b,b≠w0.heap.size+1+1->(W.setCell ⟨w0.t+1+1,0,none⟩ v).e W b:=λb hb=>aD _ _ _ _ hb;refine h.gen ⟨rfl,rfl,rfl,zs⟩ (λb hb=>hk b zo) (λg hg=>hk g zzCP) ?_ (sI h.row λg hg=>hk g zzCQ) (λg hg=>(h.own g hg).2)
 exact⟨(hk _ zo).trans h.box.most,(hk _ zo).trans h.box.r1,aB _ _ 0 _ _ _ _ h.box.r2,(hk _ zo).trans h.box.o,(hk _ zo).trans h.box.box,(hk _ zo).trans h.box.dd,(hk _ zo).trans h.box.ll⟩
theorem gH.app (h:gH B bs bt sb C xb w0 bv0 most rec bv outv r1 r2 x toks W) (o:Obj) {v':Value} {t:Tk} (Hb:W'.ownsRow (w0.t+7) 64 5 v' (I toks+1) (fV toks++[ι t.rU,ι t.pos,ι t.line,ι t.col,γ t.text]))
 (hg:(W.alloc o).grownBy W' (β outv)):
 W'.h (w0.t+1+1+1) #[outv] 78/\gH B bs bt sb C xb w0 bv0 most rec bv v' r1 r2 x (toks++[t]) (W'.setCell ⟨w0.t+1+1+1,0,none⟩ v'):=by
 have hl:=h.box.lt;have Qh:=zbM h.row;have Yr:∀ b,b<W.heap.size->β outv≠some b->W'.e W b:=λb hb qg=>(hg.block b zx (λe=>qg e.symm)).trans (bS _ _ _ hb);have VO:∀ b,b<w0.heap.size+7->β outv≠some b:=λb hb e=>by grind
 have OZ:=(Yr (w0.t+1+1+1) zo (VO _ zo)).trans h.box.o;have hk:∀ b,b<W.heap.size->β outv≠some b->b≠w0.t+1+1+1->(W'.setCell ⟨w0.t+1+1+1,0,none⟩ v').e W b:=λb hb h1 h2=>(aD _ _ _ _ h2).trans (Yr b hb h1);have Hv:W.heap.size<=W'.heap.size:=by have:=hg.size;simp at this;omega
 refine⟨OZ,h.gen ⟨hg.os,hg.tape,hg.output,by simp_all⟩ (λb hb=>hk b zo (VO _ zo) zo) (λg QY=>hk g (h.st.buf.lt g QY) (h.own g QY).2 (by have:=(h.own g QY).1;omega)) ?_ ?_ ?_⟩
 . exact⟨(hk _ zo (VO _ zo) zo).trans h.box.most,(hk _ zo (VO _ zo) zo).trans h.box.r1,(hk _ zo (VO _ zo) zo).trans h.box.r2,aB _ _ 0 _ _ _ _ OZ,(hk _ zo (VO _ zo) zo).trans h.box.box,(hk _ zo (VO _ zo) zo).trans h.box.dd,(hk _ zo (VO _ zo) zo).trans h.box.ll⟩
 . rw[zLn,List.length_singleton,zcY]
   exact sI Hb λg QY=>aD _ _ _ _ (by grind [zbM])
 intro g QY e
 have Vq:=Yr g (h.st.buf.lt g QY) (h.own g QY).2;have DR:∃ c:Array Value,W.h g c 5:=by
  rcases h.st.buf with⟨e1,_⟩|⟨g1,off,cap,cells,e1,_,h3,_⟩
  . rw[e1] at QY;cases QY
  rw[e1] at QY;cases QY;grind
 obtain⟨c,hc⟩:=DR
 rcases Hb.2 with⟨rfl,_⟩|⟨g2,cap,X0,rfl,_,h4,_⟩
 . cases e
 cases e
 grind
theorem gH.next (h:gH B bs bt sb C xb w0 bv0 most rec bv outv r1 r2 x toks W) {bv':Value} {x':Sc} (hs:ScX B W' bs bt sb C x' bv') (hk:iI bs sb bv bv' W W'):gH B bs bt sb C xb w0 bv0 most rec bv' outv r1 r2 x' toks W':=by
 have:=h.box.lt;have Qh:=zbM h.row;have:=h.lt;have hb:∀ b,w0.heap.size<=b->b<w0.t+7->β bv≠some b:=λb h1 h2 e=>by have:=(h.own b e).1;omega
 refine⟨hs,h.keep.trans hk,h.box.kept λb h1 h2=>hk.keep b zo zo zo (hb b h1 h2),sI h.row λg hg=>hk.keep g (Qh g hg).2 zg zg (λe=>(h.own g e).2 hg),λg hg=> ?_,h.lt⟩
 rcases hk.new g hg with e|e
 . exact h.own g e
 grind
end
end
section
open Go.RowKit Go.Lib Tryz
attribute [local go_sem] Oper.semAt_some
def outLen (W:ω) (b:Nat):Nat:=
 match W.cell? b.a with
 | some (.slice _ n _)=>n
 | _=>0
theorem gH.outLen {bs bt sb C:Nat} {w0:ω} {bv0:Value} {bv:Value} {x:Sc} {toks:List Tk} (h:gH B bs bt sb C xb w0 bv0 most rec bv outv r1 r2 x toks W):outLen W (w0.t+1+1+1)=I toks:=by
 have c:=zq 0 h.box.o;unfold Go.Proofs.YtmfnmkccbldfpaaGreatDoor.outLen;rw[c]
 rcases h.row.2 with⟨rfl,h0⟩|⟨g,cap,X0,rfl,_⟩
 all_goals grind
def RoundO (B bs bt sb C xb:Nat) (w0:ω) (bv0:Value) (most:Nat) (rec:LoopState->Option Code->Loop) (bv:Value) (x:Sc) (toks:List Tk) (t:Tk) (k:Nat) (e:Ending) (W':ω):Prop:=
 (k≠0/\e=ρ (φ false)/\∃ outv,gH B bs bt sb C xb w0 bv0 most (.loop (rec .done (some .ret))) bv outv outv (fN k) x toks W')\/
 (k=0/\I toks+1<most/\e=ρ (φ true)/\∃ outv,gH B bs bt sb C xb w0 bv0 most (.loop (rec .ready none)) bv outv ν .nilIface x (toks++[t]) W')\/
 (k=0/\I toks+1=most/\e=ρ (φ false)/\∃ outv,gH B bs bt sb C xb w0 bv0 most (.loop (rec .done (some (.exit 0)))) bv outv ν .nilIface x (toks++[t]) W')
def IterO (B bs bt sb C xb:Nat) (w0:ω) (bv0:Value) (most:Nat) (rec:LoopState->Option Code->Loop) (R:List Tk×Nat×Sc) (W':ω):Prop:=
 ∃ bv outv,(R.2.1≠0/\gH B bs bt sb C xb w0 bv0 most (.loop (rec .done (some .ret))) bv outv outv (fN R.2.1) R.2.2 R.1 W')\/
  (R.2.1=0/\gH B bs bt sb C xb w0 bv0 most (.loop (rec .done (some (.exit 0)))) bv outv ν .nilIface R.2.2 R.1 W')
theorem iter_any (T:dX) (R0:Nat) (hT:yV T R0) (BT B:Nat) (w0:ω) (bs bt sb C bc cc br cr bg cg M xb:Nat) (bv0:Value) (most:Nat) (rec:LoopState->Option Code->Loop) (x0:Sc) (W:ω) (bv:Value)
 (AN:w0.h xb #[aF bs] 73/\xb≠bs/\xb≠sb/\β bv0≠some xb) (Q8:gM BT w0 bt T bc cc br cr bg cg) (hTabs:oK w0) (hG:jV<=BT) (hBT:BT<=sb/\BT<=bs/\(∀ g,β bv0=some g->BT<=g)) (hC4:4<=C) (hC2:C<=900000) (hM:M<=100000000) (hw:xF M C x0) (hm:1<=most)
 (hY:∀ (bv outv:Value) (x:Sc) (toks:List Tk) (W:ω) (t:Tk) (k:Nat),gH B bs bt sb C xb w0 bv0 most (.loop (rec .ready none)) bv outv ν .nilIface x toks W->I toks<most->I toks<=100000000->
  YieldAt Fence.wide 1 prog (w0.t+1+1+1+1+1+1) #[tkV t,fN k] W (RoundO B bs bt sb C xb w0 bv0 most rec bv x toks t k))
 (h:gH B bs bt sb C xb w0 bv0 most (.loop (rec .ready none)) bv ν ν .nilIface x0 [] W):
 CallsIn Fence.wide 2 prog 95 #[.func (.yield (w0.t+1+1+1+1+1+1)) #[] #[],π (w0.t+1+1+1+1)] W
  λe W'=>(∃ v,e=ρ v)/\IterO B bs bt sb C xb w0 bv0 most rec (mG T C most x0 []) W':=by
 have HY:=zh hY;have H:=Θ h hw;have Vl:=Ψ AN Q8 hTabs (zAi hG hBT);obtain⟨R,hR⟩:=zE (mG T C most x0 []);have HR:=zh hR;rw[<-hR];clear hY h AN Q8 hTabs hBT hw hR;refine callsIn_of_wp func95 rfl trivial ?_ rfl;simp only[ntmps95,List.size_toArray,List.length_cons,List.length_nil,Nat.reduceAdd,Nat.reduceSub,Array.replicate_succ,Array.replicate_zero,List.push_toArray,List.append_toArray,List.nil_append,List.cons_append]
 gi_wp2
 gi_loopw [3] (λp wr=>∃ (bv outv:Value) (x:Sc) (toks:List Tk),gH B bs bt sb C xb w0 bv0 most (.loop (rec .ready none)) bv outv ν .nilIface x toks wr/\xF M C x/\(I toks<most/\(I toks:Int)<=x.pos)/\mG T C (most-I toks) x toks=R)
  (λp wr=>most-outLen wr (w0.t+1+1+1))
 case atStart=>exact⟨bv,_,x0,[],H.o.1,H.o.2,⟨zg,H.o.2.pos⟩,HR.o.symm⟩
 case round=>
  obtain⟨bv1,outv1,x1,toks1,YR,NQ,⟨kz,K8⟩,jb⟩:=hrel;have GV:I toks1<=100000000:=by have:=NQ.left;omega
  have Qq:=λh0=>Int.le_trans (Int.add_le_add_right K8 1) (nextS_pos (T:=T) hT hC4 NQ h0);clear K8;obtain⟨n1,QR⟩:∃ n1,most-I toks1=n1+1:=⟨most-I toks1-1,zo⟩;rw[QR,mG] at jb;have Hf:=YR.lt;have YK:Below BT w0 wr:=YR.keep.below (zT (zT Vl.o.2.2.2.2.2.1 (Nat.le_of_lt Hf.2.1)) bR) Vl.o.2.2.2.2.2.1 Vl.o.2.2.2.2.1 Vl.o.2.2.2.2.2.2
  have hN:=zcy T R0 hT BT B wr bs bt sb C bc cc br cr bg cg M x1 bv1 YR.st (Vl.o.2.1.below YK) (fD Vl.o.2.2.1 YK Vl.o.2.2.2.1) Vl.o.2.2.2.1 Vl.o.2.2.2.2.1 hC4 hC2 NQ hM;have DX:=zaV (T:=T) NQ;have RN:xb<w0.t:=aA Vl.o.1.1;have Fa:wr.h xb #[aF bs] 73:=(YR.keep.keep xb RN Vl.o.1.2.1 Vl.o.1.2.2.1 Vl.o.1.2.2.2).trans Vl.o.1.1;have cx:=zq 0 Fa;have cb:=zq 0 YR.box.box
  have Vd:=YR.outLen;have lbx:=YR.box.lt;obtain⟨t,k,x2,hS⟩:∃ t k x2,jA T C x1=(t,k,x2):=⟨_,_,_,rfl⟩;rw[hS] at hN jb DX Qq;dsimp only at hN jb DX Qq;have JS:=zh Qq;clear Qq;have HN:=zh hN;have H1:=zh YR;have H2:=zh jb;have H3:=zh DX;have H4:=zh Vd;clear hN YR jb DX NQ YK Fa hS Vd;by_cases hk:k=0
  . subst hk
    gi_wp2_with (first|(refine⟨trivial,?_⟩;gi_at_call 22;refine (callsIn_wide.2 HN.o).mono ?_;rintro e w2 ⟨rfl,bv2,x8,QF⟩;have Jm:=H1.o.next x8 QF;have hy:=HY.o bv2 outv1 x2 toks1 (κ w2 (Ω #[ι t.rU,ι t.pos,ι t.line,ι t.col,γ t.text] 64)) t 0 (Jm.alloc _) kz GV;obtain⟨fn,tmps,assign,body,RO,DZ⟩:=hy;have mf:=zh DZ;unfold tkV at RO;rw[kD] at RO;dsimp only[tkV];rw[kD];clear x8 QF Jm DZ))
    refine mf.o.mono ?_;rintro e W3 (⟨h0,_⟩|⟨_,OD,rfl,outv3,Vc⟩|⟨_,OD,rfl,outv3,Vc⟩)
    . exact absurd rfl h0
    . have VY:=zh Vc
      clear Vc
      gi_wp2
      go_roundw
      case rel=>exact⟨bv2,outv3,x2,toks1++[t],VY.o,H3.o,⟨zg,by have:=JS.o trivial;simpa using this⟩,by have h9:=H2.o;grind⟩
      case measure=>rw[VY.o.outLen,H4.o,zLn,List.length_singleton];omega
    have VY:=zh Vc
    clear Vc
    gi_wp2
    refine bodyPost_ret (results_none rfl _ _ _) rfl ?_;refine⟨⟨_,rfl⟩,bv2,outv3,.inr ?_⟩;have Yn:n1=0:=zo
    have h9:=H2.o;rw[zN zs,Yn,mG] at h9;rw[<-h9];exact⟨rfl,VY.o⟩
  have t7:=jE hk
  have HK:=zh hk;clear hk
  gi_wp2_with (first|(refine⟨trivial,?_⟩;gi_at_call 22;refine (callsIn_wide.2 HN.o).mono ?_;rintro e w2 ⟨rfl,bv2,x8,QF⟩;have Jm:=H1.o.next x8 QF;have hy:=HY.o bv2 outv1 x2 toks1 (κ w2 (Ω #[ι t.rU,ι t.pos,ι t.line,ι t.col,γ t.text] 64)) t k (Jm.alloc _) kz GV;obtain⟨fn,tmps,assign,body,RO,DZ⟩:=hy;have mf:=zh DZ;unfold tkV at RO;rw[t7] at RO;dsimp only[tkV];rw[t7];clear x8 QF Jm DZ t7))
  refine mf.o.mono ?_;rintro e W3 (⟨_,rfl,outv3,Vc⟩|⟨h0,_⟩|⟨h0,_⟩)
  . have VY:=zh Vc
    clear Vc
    gi_wp2
    refine bodyPost_ret (results_none rfl _ _ _) rfl ?_;refine⟨⟨_,rfl⟩,bv2,outv3,.inl ?_⟩;have h9:=H2.o;rw[zP HK.o] at h9;rw[<-h9];exact⟨HK.o,VY.o⟩
  . exact absurd h0 HK.o
  exact absurd h0 HK.o
end
section
open Go.RowKit Go.Lib Tryz
attribute [local go_sem] Oper.semAt_some
def AllO (B C bs bt sb:Nat) (R:List Tk×Nat×Sc) (bv:Value) (w:ω) (e:Ending) (w':ω):Prop:=
 ∃ outv,e=ρ (ϕ #[outv,fN R.2.1])/\w'.ownsRow w.t 64 5 outv (I R.1) (fV R.1)/\∃ bv',ScX B w' bs bt sb C R.2.2 bv'/\iI bs sb bv bv' w w'/\∀ g,β bv'=some g->β outv≠some g
theorem zh1 {A:Nat} (h:w.ownsRow B e size v n xs) (hA:A<=B):w.ownsRow A e size v n xs:=by
 refine⟨h.1,?_⟩
 rcases h.2 with hn|⟨g,cap,X0,rfl,hb,At,rest⟩
 . grind
 exact .inr ⟨g,cap,X0,rfl,zT hA hb,At,rest⟩
theorem zdX {F:Fence} {P:Program} {fn:FuncId} {tmps:Array Value} {ps:Array Tmp} {assign body:Code} {D:Nat} {args:Array Value} {R:Ending->World->Prop} (hF:F.fn fn)
 (hl:W.heap[l]?=some (.loop (recL fn tmps ps assign body D .ready none))) (hs:args.size=ps.size)
 (h:assign.wpIn (F.inRound l) n P (Exit.then (λa1 W2=>W2.heap[l]?=some (.loop (recL fn tmps ps assign body D .ready none))/\∀ (rec:LoopState->Option Code->Loop) (W3:ω),zH (rec=recL fn tmps ps assign body D)->zH (W3=W2.putObj l (.loop (rec .busy none)))->
  body.wpIn (F.inRound l) n P (ypost l rec R) a1 W3) (λ_ _ _=>False))
  {tmps:=(ps.zip args).foldl (λt (p,v)=>t.setIfInBounds p v) tmps,defers:=[]} W):YieldAt F n P l args W R:=
 yield_own hF hl hs (wpIn_mono h λe a w hq=>by
  cases e with
  | normal=>exact⟨hq.1,hq.2 _ _ (zh rfl) (zh rfl)⟩
  | ret=>exact hq
  | exit id=>exact hq
  | goto t=>exact hq
  | panic c=>exact hq
  | outgrown=>exact hq)
theorem zh2 {F:Fence} {P:Program} {rec:LoopState->Option Code->Loop} {Q:Exit->Act->World->Prop} {a:Act} (v:Value) (c:Code) (hl:W.heap[l]?=some (.loop (rec .done (some c))))
 (h:∀ (o:Obj) (W8:ω),zH (W8=W.putObj l o)->c.wpIn F n P Q a W8):rpost F n P l rec Q a (ρ v) W:=
 ⟨v,.done,c,rfl,zs,hl,h _ _ (zh rfl)⟩
theorem elemTok:eO prog 78 64 5 48:=eO.of (z:=.agg #[ι 0,ι 0,ι 0,ι 0,γ ⟨#[]⟩]) underlying78 zK rfl zd
theorem gH.shut {bs bt sb C:Nat} {w0:ω} {bv0:Value} {bv:Value} {x:Sc} {toks:List Tk} (h:gH B bs bt sb C xb w0 bv0 most rec bv outv r1 r2 x toks W) (o:Obj) {k:Nat} {l:List Tk} {y:Sc} (hk:y=x/\l=toks):
 (W.putObj (w0.t+1+1+1+1+1) o).v (w0.t+1) 0 r1/\(W.putObj (w0.t+1+1+1+1+1) o).v (w0.t+1+1) 0 r2/\
 ((r1=outv/\r2=fN k)->AllO B C bs bt sb (l,k,y) bv0 w0 (ρ (ϕ #[r1,r2])) (W.putObj (w0.t+1+1+1+1+1) o)):=by
 obtain⟨rfl,rfl⟩:=hk;have hk:∀ b,b≠w0.heap.size+1+1+1+1+1->(W.putObj (w0.t+1+1+1+1+1) o).e W b:=λb hb=>World.putObj_heap_other hb;have e1:=zQ 0 ((hk _ zo).trans h.box.r1);have e2:=zQ 0 ((hk _ zo).trans h.box.r2);simp only[zLa,zLb] at e1 e2;refine⟨e1,e2,?_⟩;rintro⟨rfl,rfl⟩;refine⟨r1,rfl,zh1 (sI h.row λg hg=>hk g zzCQ) zo,bv,?_,?_,λg hg=>(h.own g hg).2⟩
 . exact⟨(hk _ (by have:=h.lt;omega)).trans h.st.sc,h.st.buf.kept (λg hg=>hk g zzCP),h.st.src.below (λb hb=>hk b (by have:=h.lt;omega)),h.st.ok,h.st.bB,h.st.own⟩
 exact⟨h.keep.os,h.keep.tape,h.keep.output,by have:=h.keep.size;simp_all,λb hb h1 h2 h3=>(hk b zo).trans (h.keep.keep b hb h1 h2 h3),h.keep.new⟩
theorem all_any (T:dX) (R0:Nat) (hT:yV T R0) (BT B:Nat) (w:ω) (bs bt sb C bc cc br cr bg cg M xb:Nat) (bv:Value) (most:Nat) (x:Sc)
 (AN:w.h xb #[aF bs] 73/\xb≠bs/\xb≠sb/\β bv≠some xb) (Q8:gM BT w bt T bc cc br cr bg cg) (hTabs:oK w) (hG:jV<=BT) (hBT:BT<=sb/\BT<=bs/\(∀ g,β bv=some g->BT<=g)) (hC4:4<=C) (hC2:C<=900000) (hM:M<=100000000) (hw:xF M C x) (hm:1<=most) (Jm:most<=9223372036854775807)
 (h:ScX B w bs bt sb C x bv):
 Γ 25 #[aF xb,ι most] w (AllO B C bs bt sb (mG T C most x []) bv w):=by
 refine (callsIn_wide (n:=3)).1 ?_;refine callsIn_of_wp_marks func25 rfl trivial ?_ rfl;simp only[ntmps25,List.size_toArray,List.length_cons,List.length_nil,Nat.reduceAdd,Nat.reduceSub,Array.replicate_succ,Array.replicate_zero,List.push_toArray,List.append_toArray,List.nil_append,List.cons_append]
 gi_wp2_with (refine⟨trivial,?_⟩;gi_at_call 53;refine (callsIn_wide.2 (zjb xb _)).mono ?_;rintro e w' ⟨rfl,rfl⟩)
 obtain⟨W5,dy⟩:∃ W5,κ (κ (κ (κ (κ w (Ω #[ι most] 3)) (Ω #[ν] 78)) (Ω #[.nilIface] 51)) (Ω #[ν] 78)) (Ω #[aF xb] 66)=W5:=⟨_,rfl⟩;have Hv:W5.heap.size=w.heap.size+1+1+1+1+1:=by rw[<-dy];simp
 have Qn:w.u W5:=by
  rw[<-dy];exact ((((Ξ w _).alloc zs _).alloc zx _).alloc zx _).alloc zx _
 have hg:∀ (k:Nat) (o:Obj),W5.heap[k]?=some o->k<w.t+5:=λk o hk=>by grind
 have p0:W5.h w.t #[ι most] 3:=by
  rw[<-dy,bS _ _ _ zzDo,bS _ _ _ zzDo,bS _ _ _ zzDo,bS _ _ _ zs];exact bA _ _ _ rfl
 have p1:W5.h (w.t+1) #[ν] 78:=by
  rw[<-dy,bS _ _ _ zs,bS _ _ _ zs,bS _ _ _ zs];exact bA _ _ _ zs
 have p2:W5.h (w.t+1+1) #[.nilIface] 51:=by
  rw[<-dy,bS _ _ _ zs,bS _ _ _ zs];exact bA _ _ _ zs
 have p3:W5.h (w.t+1+1+1) #[ν] 78:=by
  rw[<-dy,bS _ _ _ zs];exact bA _ _ _ zs
 have p4:W5.h (w.t+1+1+1+1) #[aF xb] 66:=by
  rw[<-dy];exact bA _ _ _ zs
 rw[dy];refine range_own rfl zo (gf:=95) (lb:=#[π (w.t+1+1+1+1)]) rfl trivial (enters_of func95 zr rfl) ?_;intro fn _;rw[Hv];have yv:∀ o:Obj,w.u (κ (W5.alloc (.deferred (some []))) o):=λo=>(Qn.alloc zo _).alloc zx _;have kw:∀ o:Obj,zeV w.t xb most o ν ν .nilIface (κ (W5.alloc (.deferred (some []))) o):=by
  intro o;have hk:∀ b,b<W5.heap.size->(κ (W5.alloc (.deferred (some []))) o).e W5 b:=λb hb=>(bS _ _ _ zzDo).trans (bS _ _ _ hb);refine⟨(hk _ zo).trans p0,(hk _ zo).trans p1,(hk _ zo).trans p2,(hk _ zo).trans p3,(hk _ zo).trans p4,?_,?_⟩
  . grind [bS,bA]
  exact bA _ _ _ zx
 have YC:∀ o:Obj,gH B bs bt sb C xb w bv most o bv ν ν .nilIface x [] (κ (W5.alloc (.deferred (some []))) o):=λo=>
  ⟨h.below (yv o),iI.of_below (yv o),kw o,World.ownsRow_nil _ _ _ _,λg hg=>⟨.inl (h.buf.lt g hg),λe=>by cases e⟩,by have:=h.lt;omega⟩
 refine (iter_any T R0 hT BT B w bs bt sb C bc cc br cr bg cg M xb bv most _ x _ bv AN Q8 hTabs hG hBT hC4 hC2 hM hw hm ?hY (YC _)).mono ?hZ
 case hY=>
  intro bv1 outv1 x1 toks1 W1 t k YR kz GV;have:=YR.box.lt;by_cases hk:k=0
  . subst hk
    rw[kD];unfold tkV;refine zdX trivial YR.box.ll rfl ?_
    gi_wp2
    refine⟨(YR.alloc _).box.ll,?_⟩;intro rec W3 DE PM;have Vc:gH B bs bt sb C xb w bv most (.loop (rec .busy none)) bv1 outv1 ν .nilIface x1 toks1 W3:=by rw[PM.o];exact (YR.alloc _).put _
    have Vu:W3.h W1.t #[ι t.rU,ι t.pos,ι t.line,ι t.col,γ t.text] 64:=by
     rw[PM.o,World.putObj_heap_other zo];exact bA _ _ _ rfl
    have:=zq 0 Vu;have:=zq 1 Vu;have:=zq 2 Vu;have:=zq 3 Vu;have:=zq 4 Vu;have co:=zq 0 Vc.box.o;have:=zq 0 Vc.box.most;have lb3:=Vc.box.lt;obtain⟨_,⟨ie,ze,TW,Yj,Bt,Fh,I1⟩,_⟩:=elemTok;clear Vu
    gi_wp2_with (gi_at_builtin;refine wpListIn_append_own _ rfl _ _ 78 rfl (w.t+7) 64 ie ze 5 48 underlying78 TW Yj Bt Fh I1 zd _ _ _ rfl (by exact (Vc.alloc _).row) W3.z 1 1 [ι t.rU,ι t.pos,ι t.line,ι t.col,γ t.text] rfl rfl (cI _ #[ι t.rU,ι t.pos,ι t.line,ι t.col,γ t.text] _ _ rfl) zzAU (by unfold maxLen;omega) zo (by have:=Vc.box.lt;simp;omega) ?_;intro v4 w4 Nf ql _;obtain⟨g4,Hz,rfl⟩:=ownsRow_succ Nf;obtain⟨qu,Aw⟩:=Vc.app _ Nf ql;have:=zq 0 qu;have:=zF 0 qu;have:=zq 0 Aw.box.most;clear qu Nf ql)
    . have hf:(((I toks1:Int)+1)==(most:Int))=true:=by assumption
      have Ce:I toks1+1=most:=by have:=eq_of_beq hf;omega
      have Aw:=Aw;obtain rfl:=DE.o;exact⟨Aw.box.ll,.inr (.inr ⟨rfl,Ce,rfl,_,Aw.put _⟩)⟩
    have hf:(((I toks1:Int)+1)==(most:Int))=false:=by assumption
    have Ce:I toks1+1<most:=by have:=ne_of_beq_false hf;omega
    have Aw:=Aw;obtain rfl:=DE.o;exact⟨Aw.box.ll,.inr (.inl ⟨rfl,Ce,rfl,_,Aw.put _⟩)⟩
  . obtain⟨ao1,n1,cap1,rfl⟩:∃ ao n cap,outv1=τ ao n cap:=by
     rcases YR.row.2 with⟨rfl,_⟩|⟨g,cap,X0,rfl,_⟩
     all_goals simp
    rw[jE hk];unfold tkV;refine zdX trivial YR.box.ll rfl ?_
    gi_wp2
    refine⟨(YR.alloc _).box.ll,?_⟩;intro rec W3 DE PM;have Vc:gH B bs bt sb C xb w bv most (.loop (rec .busy none)) bv1 (τ ao1 n1 cap1) ν .nilIface x1 toks1 W3:=by rw[PM.o];exact (YR.alloc _).put _
    have co:=zq 0 Vc.box.o;have c1:=zq 0 Vc.box.r1;have f1:=zF 0 Vc.box.r1;have c2:=zq 0 Vc.box.r2;have f2:=zF 0 Vc.box.r2;have lb3:=Vc.box.lt
    gi_wp2
    have Aw:=((Vc.set1 (τ ao1 n1 cap1)).set2 (Δ 86 (ι k)));obtain rfl:=DE.o;refine⟨Aw.box.ll,.inl ⟨hk,rfl,τ ao1 n1 cap1,?_⟩⟩;rw[jE hk];exact Aw.put _
 case hZ=>
  obtain⟨R,hR⟩:=zE (mG T C most x []);rw[<-hR];clear YC kw yv Qn p0 p1 p2 p3 p4 hg;rintro e W9 ⟨⟨v,rfl⟩,bv9,outv9,(⟨Jl,Bw⟩|⟨Jl,Bw⟩)⟩
  . refine zh2 v .ret Bw.box.ll ?_
    intro o W8 Zz;have CU:gH B bs bt sb C xb w bv most o bv9 outv9 outv9 (fN R.2.1) R.2.2 R.1 W8:=by rw[Zz.o];exact Bw.put o
    clear Bw
    gi_wp2
    refine⟨zs,.inl ⟨_,_,rfl,run_takeDeferred CU.box.dd,?_⟩⟩;obtain⟨e1,e2,e3⟩:=CU.shut (.deferred none) (k:=R.2.1) (l:=R.1) (y:=R.2.2) ⟨rfl,rfl⟩;refine⟨ϕ #[outv9,fN R.2.1],?_,e3 ⟨rfl,rfl⟩⟩;simp[results,results25,go_sem,e1,e2]
  refine zh2 v (.exit 0) Bw.box.ll ?_
  intro o W8 Zz;have CU:gH B bs bt sb C xb w bv most o bv9 outv9 ν .nilIface R.2.2 R.1 W8:=by rw[Zz.o];exact Bw.put o
  clear Bw;obtain⟨ao1,n1,cap1,rfl⟩:∃ ao n cap,outv9=τ ao n cap:=by
   rcases CU.row.2 with⟨rfl,_⟩|⟨g,cap,X0,rfl,_⟩
   all_goals simp
  have co:=zq 0 CU.box.o;have c1:=zq 0 CU.box.r1;have f1:=zF 0 CU.box.r1;have c2:=zq 0 CU.box.r2;have f2:=zF 0 CU.box.r2;have EN:=(CU.set1 (τ ao1 n1 cap1)).set2 .nilIface
  gi_wp2
  refine⟨zs,.inl ⟨_,_,rfl,run_takeDeferred EN.box.dd,?_⟩⟩;obtain⟨e1,e2,e3⟩:=EN.shut (.deferred none) (k:=R.2.1) (l:=R.1) (y:=R.2.2) ⟨rfl,rfl⟩;refine⟨ϕ #[τ ao1 n1 cap1,.nilIface],?_,by rw[<-hR];exact e3 ⟨rfl,by rw[Jl,kD]⟩⟩;simp[results,results25,go_sem,e1,e2]
