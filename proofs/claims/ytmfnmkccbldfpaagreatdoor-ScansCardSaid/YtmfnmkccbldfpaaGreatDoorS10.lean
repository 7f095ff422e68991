/- Part of a proof. No condition. -/
import Derived.Test.YtmfnmkccbldfpaaGreatDoorS01
import Derived.Test.YtmfnmkccbldfpaaGreatDoorS06
set_option linter.unusedVariables false
set_option linter.unusedSimpArgs false
set_option maxRecDepth 100000
namespace Go.Proofs.YtmfnmkccbldfpaaGreatDoor
open Go.RowKit Go.Lib Tryz
theorem zzDL {p:Prop} (h:p:=by rw[h.tags x hx];exact ht):p:=h
variable {tag:Nat->Nat} {w w':ω} {Hd:ο} {vs:ζ} {G:List cK} {seen:Nat->Bool} {i:Nat} {k:cK} {f:cK->cK}
abbrev aF (a:Nat):Value:=π a
structure sU (w:ω) (tag:Nat->Nat) (Hd:ο) (vs:ζ) (G:List cK) (seen:Nat->Bool):Prop where
 la:I Hd=I G
 lv:I vs=I G
 cell:∀ i,i<I G->w.h (χ Hd i 0) #[χ vs i undef,ι (aX G i),φ (eM G i),φ (seen i)] 172
 row:∀ i,i<I G->w.r 170 1 (χ vs i undef) (I (bD G i)) ((bD G i).map λj=>aF (χ Hd j 0))
 ta:∀ i,i<I G->tag (χ Hd i 0)=10+2*i
 tv:∀ i g,i<I G->β (χ vs i undef)=some g->tag g=11+2*i
 wf:∀ i j,i<I G->j∈bD G i->j<I G
structure uQ (tag He:Nat->Nat) (w w':ω):Prop where
 os:w'.os=w.os
 tape:w'.tape=w.tape
 output:w'.output=w.output
 size:w.heap.size<=w'.heap.size
 tags:∀ b,b<w.heap.size->He b=tag b
 keep:∀ b,b<w.heap.size->tag b<10->w'.e w b
theorem uQ.trans {t1 t2 t3:Nat->Nat} {a b c:ω} (h:uQ t1 t2 a b) (k:uQ t2 t3 b c):uQ t1 t3 a c:=
 ⟨k.os.trans h.os,k.tape.trans h.tape,k.output.trans h.output,zT h.size k.size,λx hx=>(k.tags x (zLd hx h.size)).trans (h.tags x hx),
  λx hx ht=>(k.keep x (zLd hx h.size) zzDL).trans (h.keep x hx ht)⟩
theorem uQ.below (h:w.u w'):uQ tag tag w w':=⟨h.os,h.tape,h.output,h.size,λ_ _=>rfl,λb hb _=>h.block b hb⟩
theorem sU.below (h:sU w tag Hd vs G seen) (hb:w.u w'):sU w' tag Hd vs G seen:=
 ⟨h.la,h.lv,λi hi=>(hb.block _ (aA (h.cell i hi))).trans (h.cell i hi),λi hi=>aN (h.row i hi) hb,h.ta,h.tv,h.wf⟩
theorem sU.apart {He:Nat->Nat} (h:sU w tag Hd vs G seen)
 (ht:∀ b,b<w.heap.size->He b=tag b) (hk:∀ b,b<w.heap.size->10<=tag b->w'.e w b):sU w' He Hd vs G seen:=by
 refine⟨h.la,h.lv,λi hi=> ?_,λi hi=> ?_,λi hi=> ?_,λi g hi hg=> ?_,h.wf⟩
 . exact (hk _ (aA (h.cell i hi)) (by rw[h.ta i hi];omega)).trans (h.cell i hi)
 . exact aU (h.row i hi) λg hg=>hk g ((h.row i hi).lt g hg).2 (by rw[h.tv i g hi hg];omega)
 . rw[ht _ (aA (h.cell i hi))];exact h.ta i hi
 rw[ht _ ((h.row i hi).lt g hg).2];exact h.tv i g hi hg
def dI (tag:Nat->Nat) (n c:Nat):Nat->Nat:=λb=>if b=n then c else tag b
theorem dJ {n c b:Nat} (h:b≠n):dI tag n c b=tag b:=zN h
theorem mC (tag:Nat->Nat) (n c:Nat):dI tag n c n=c:=zP rfl
theorem bK {α:Type} {l r:List α} {d:α} (h:i<I l):χ (l++r) i d=χ l i d:=by
 grind
theorem cV {α:Type} {l:List α} {x d:α}:χ (l++[x]) (I l) d=x:=by
 simp
theorem vZ (h:i<I G):bD (G++[k]) i=bD G i:=by grind [bD]
theorem zcK (h:i<I G):aX (G++[k]) i=aX G i:=by grind [aX]
theorem finOf_app (h:i<I G):eM (G++[k]) i=eM G i:=by grind [eM]
theorem sU.push (h:sU w tag Hd vs G seen) (n:Nat) (hs:seen (I G)=false):
 sU (κ w (Ω #[.slice none 0 0,ι n,.bool false,.bool false] 172)) (dI tag w.heap.size (10+2*I G)) (Hd++[w.heap.size]) (vs++[.slice none 0 0]) (G++[⟨[],n,false⟩]) seen:=by
 have hb:=(zBr w.t w).alloc bR (Ω #[ν,ι n,φ false,φ false] 172);have Ho:I (G++[(⟨[],n,false⟩:cK)])=I G+1:=zs
 refine⟨by simp[h.la],by simp[h.lv],λi hi=> ?_,λi hi=> ?_,λi hi=> ?_,λi g hi hg=> ?_,λi j hi hj=> ?_⟩
 . rcases zLg i (I G) with hl|hl
   . rw[bK (by rw[h.la];exact hl),bK (by rw[h.lv];exact hl),zcK hl,finOf_app hl]
     exact (hb.block _ (aA (h.cell i hl))).trans (h.cell i hl)
   have:i=I G:=by omega
   subst this
   conv=>lhs;rw[<-h.la,cV,aV,zP rfl]
   conv=>rhs;rw[<-h.lv,cV,h.lv]
   simp[aX,eM,hs]
 . rcases zLg i (I G) with hl|hl
   . rw[bK (by rw[h.lv];exact hl),vZ hl]
     have e:(bD G i).map (λj=>aF (χ (Hd++[w.heap.size]) j 0))=(bD G i).map λj=>aF (χ Hd j 0):=
      List.map_congr_left λj hj=>by rw[bK (by rw[h.la];exact h.wf i j hl hj)]
     rw[e];exact aN (h.row i hl) hb
   have:i=I G:=by omega
   subst this;have e:bD (G++[(⟨[],n,false⟩:cK)]) (I G)=[]:=by simp[bD]
   rw[e]
   conv=>rw[<-h.lv,cV]
   exact qD _ _ _
 . rcases zLg i (I G) with hl|hl
   . rw[bK (by rw[h.la];exact hl),dJ (by have:=aA (h.cell i hl);omega)]
     exact h.ta i hl
   have:i=I G:=by omega
   subst this;rw[<-h.la,cV,mC,h.la]
 . rcases zLg i (I G) with hl|hl
   . rw[bK (by rw[h.lv];exact hl)] at hg
     rw[dJ (by have:=((h.row i hl).lt g hg).2;omega)];exact h.tv i g hl hg
   have:i=I G:=by omega
   subst this;rw[<-h.lv,cV] at hg;simp[Value.ownBlock] at hg
 rcases zLg i (I G) with hl|hl
 . rw[vZ hl] at hj
   have:=h.wf i j hl hj;omega
 grind [bD]
theorem uQ.push (tag:Nat->Nat) (w:ω) (o:Obj) (c:Nat):uQ tag (dI tag w.t c) w (κ w o):=
 have hb:=(zBr w.t w).alloc bR o
 ⟨hb.os,hb.tape,hb.output,hb.size,λb hx=>dJ zo,λb hx _=>hb.block b hx⟩
theorem pZ {α:Type} {l:List α} {x d:α} (h:i<I l):χ (l.set i x) i d=x:=by
 grind
theorem pB {α:Type} {l:List α} {j:Nat} {x d:α} (h:i≠j):χ (l.set i x) j d=χ l j d:=by
 grind
theorem zeT {j:Nat} (h:i≠j):bD (G.modify i f) j=bD G j:=by grind [bD]
theorem uI (hf:∀ k,(f k).place=k.place) (i j:Nat):aX (G.modify i f) j=aX G j:=by
 grind [aX]
theorem zfm (hf:∀ k,(f k).fin=k.fin) (i j:Nat):eM (G.modify i f) j=eM G j:=by
 grind [eM]
theorem xA {l:ο} (h:i<I G):bD (G.modify i (qO l)) i=bD G i++l:=by
 grind [bD,qO]
theorem sU.link {w2:ω} (h:sU w tag Hd vs G seen) (i:Nat) (hi:i<I G) (l:ο) (hl:∀ j∈l,j<I G)
 (o:Obj) (v':Value) (Hb:w2.r 170 1 v' (I (bD G i)+I l) ((bD G i).map (λj=>aF (χ Hd j 0))++l.map λj=>aF (χ Hd j 0)))
 (hg:(κ w o).grownBy w2 (β (χ vs i undef))) (hb:β v'=β (χ vs i undef)\/β v'=some (κ w o).heap.size):
 ∃ He,sU (ς w2 (χ Hd i 0).a v') He Hd (vs.set i v') (G.modify i (qO l)) seen/\uQ tag He w (ς w2 (χ Hd i 0).a v'):=by
 have hB:=(zBr w.t w).alloc bR o;have h1:=h.below hB;have xf:=aA (h.cell i hi);have XQ:∀ b,b<w.heap.size->tag b≠10+2*i->tag b≠11+2*i->(ς w2 (χ Hd i 0).a v').e w b:=by
  intro b tW A5 dt;rw[aD _ _ _ _ (λe=>A5 (by rw[show b=χ Hd i 0 from e];exact h.ta i hi))];exact (hg.block b (zLd tW hB.size) (λe=>dt (h.tv i b hi e.symm))).trans (hB.block b tW)
 have Hv:w.heap.size+1<=w2.heap.size:=by have:=hg.size;simpa using this
 have jm:∀ g,β v'=some g->g<w2.t/\(tag g=11+2*i/\g<w.t\/g=w.t+1):=by
  intro g Q2;refine⟨(Hb.lt g Q2).2,?_⟩
  rcases hb with e|e
  . rw[Q2] at e
    have:=((h.row i hi).lt g e.symm).2;exact .inl ⟨h.tv i g hi e.symm,this⟩
  simp_all
 refine⟨dI tag (w.t+1) (11+2*i),⟨?_,?_,?_,?_,?_,?_,?_⟩,?_⟩
 . simpa using h.la
 . simpa using h.lv
 . intro j hj
   have KZ:j<I G:=by simpa using hj
   rw[uI (f:=qO l) (λ_=>rfl),zfm (f:=qO l) (λ_=>rfl)];by_cases e:i=j
   . subst e
     rw[pZ (by rw[h.lv];exact hi)];have hc:w2.h (χ Hd i 0) #[χ vs i undef,ι (aX G i),φ (eM G i),φ (seen i)] 172:=
      (hg.block _ (zLd xf hB.size) (λe=>by have:=h.tv i _ hi e.symm;rw[h.ta i hi] at this;omega)).trans ((hB.block _ xf).trans (h.cell i hi))
     rw[aB _ _ _ _ _ _ _ hc];rfl
   rw[pB e,XQ _ (aA (h.cell j KZ)) (by rw[h.ta j KZ];omega) (by rw[h.ta j KZ];omega)]
   exact h.cell j KZ
 . intro j hj
   have KZ:j<I G:=by simpa using hj
   by_cases e:i=j
   . subst e
     rw[pZ (by rw[h.lv];exact hi),xA hi,zLn,List.map_append];refine aU Hb λg Q2=> ?_;rw[aD _ _ _ _ (by
      intro e2;have e3:g=χ Hd i 0:=e2
      rcases (jm g Q2).2 with⟨h1,_⟩|h1
      . rw[e3,h.ta i hi] at h1;omega
      omega)]
   rw[pB e,zeT e]
   exact aU (h.row j KZ) λg Q2=>XQ g ((h.row j KZ).lt g Q2).2 (by rw[h.tv j g KZ Q2];omega) (by rw[h.tv j g KZ Q2];omega)
 . intro j hj
   have KZ:j<I G:=by simpa using hj
   rw[dJ (by have:=aA (h.cell j KZ);omega)];exact h.ta j KZ
 . intro j g hj Q2
   have KZ:j<I G:=by simpa using hj
   by_cases e:i=j
   . subst e
     rw[pZ (by rw[h.lv];exact hi)] at Q2
     grind [dJ,mC]
   rw[pB e] at Q2
   rw[dJ (by have:=((h.row j KZ).lt g Q2).2;omega)];exact h.tv j g KZ Q2
 . intro a b ha Qy
   have ha':a<I G:=by simpa using ha
   simp only[List.length_modify];by_cases e:i=a
   . subst e
     rw[xA hi,zMa] at Qy
     rcases Qy with Qy|Qy
     . exact h.wf i b hi Qy
     grind
   rw[zeT e] at Qy
   exact h.wf a b ha' Qy
 refine⟨hg.os.trans hB.os,hg.tape.trans hB.tape,hg.output.trans hB.output,zx,λb tW=>dJ zo,λb tW ht=>XQ b tW zo zo⟩
abbrev W64:Nat:=18446744073709551616
def qV (s:aZ):Value:=.agg #[υ s.1,υ s.2]
def aZ.Ok (s:aZ):Prop:=s.1<W64/\s.2<W64
def kS (w:ω) (b:Nat) (s:aZ):Prop:=w.h b #[υ s.1,υ s.2] 176
theorem kS.cells {b:Nat} {s:aZ} (h:kS w b s):w.v b 0 (υ s.1)/\w.v b 1 (υ s.2):=by
 have:=bF w b 0 _ _ _ h;have:=bF w b 1 _ _ _ h
 grind
theorem zam (a b:Nat) (ha:a<W64) (hb:b<W64):bits .or .u64 (a:Int) (b:Int)=((a|||b:Nat):Int):=bits_or_u64_nat a b ha hb
theorem zb8 (a k:Nat) (ha:a<W64) (hk:k<64):bits .or .u64 (a:Int) ((2:Int)^k)=((a|||2^k:Nat):Int):=by
 rw[<-zam a (2^k) ha (Nat.pow_lt_pow_right zd hk)];rfl
theorem zcL (k:Nat) (hk:k<64):2^k<W64:=Nat.pow_lt_pow_right zd hk
theorem zdW (k:Nat) (hk:k<64):IntKind.u64.wrap ((2:Int)^k)=((2^k:Nat):Int):=by
 have:=zcL k hk
 grind [IntKind.wrap_u64]
theorem zhc {s:aZ} {n:Nat} (h:s.Ok) (hn:n<128):(s.add n).Ok:=by
 unfold aZ.add;split
 . exact⟨Nat.or_lt_two_pow (n:=64) h.1 (zcL n zo),h.2⟩
 exact⟨h.1,Nat.or_lt_two_pow (n:=64) h.2 (zcL (n-64) zo)⟩
def AddO (b n:Nat) (s:aZ) (w:ω) (e:Ending) (w':ω):Prop:=e=ρ (ϕ #[])/\kS w' b (s.add n)/\w.g w' b
theorem zbw (b n:Nat) (s:aZ) (w:ω) (h:kS w b s) (hs:s.Ok) (hn:n<128):
 Γ 68 #[π b,ι n] w (AddO b n s w):=by
 obtain⟨c0,c1⟩:=h.cells;have:=bN w b 0 _ _ h;have:=bN w b 1 _ _ h;by_cases Jv:n<64
 . have:(n:Int)<64:=zo
   have e1:(n:Int) / 64=0:=zo
   have e2:(n:Int)%64=(n:Int):=zo
   have e3:=zdW n Jv;have e4:=zb8 s.1 n hs.1 Jv;have xt:s.add n=(s.1|||2^n,s.2):=by unfold aZ.add;rw[zP Jv]
   go_in
   go_region
   all_goals (go_end0;exact⟨rfl,by rw[xt];exact aB w b 0 _ _ _ _ h,aM (lV w b 0 _) 1⟩)
 have e1:(n:Int) / 64=1:=zo
 obtain⟨k,hk⟩:=zE (n-64);have e2:(n:Int)%64=(k:Int):=zo
 have Oe:k<64:=zo
 have e3:=zdW k Oe;have e4:=zb8 s.2 k hs.2 Oe;have xt:s.add n=(s.1,s.2|||2^k):=by unfold aZ.add;rw[zN Jv,hk]
 clear hk;go_in
 go_region
 all_goals (go_end0;exact⟨rfl,by rw[xt];exact aB w b 1 _ _ _ _ h,aM (lV w b 1 _) 1⟩)
theorem has_bit (a k:Nat) (ha:a<W64) (hk:k<64):(bits .and .u64 ((a:Int) / (2:Int)^k) 1==1)=a.testBit k:=by
 have:bits .and .u64 ((a / 2^k:Nat):Int) ((1:Nat):Int)=(((a / 2^k)&&& 1:Nat):Int):=bits_and_u64_nat _ _ (Nat.lt_of_le_of_lt (Nat.div_le_self _ _) ha) zd
 grind
theorem zdO (n:Nat) (s:aZ) (w:ω) (hs:s.Ok) (hn:n<128):
 Γ 69 #[qV s,ι n] w λe w'=>e=ρ (φ (s.has n))/\w.u w':=by
 unfold qV;have HB:=zh ((zBr w.t w).alloc bR (Ω #[υ s.1,υ s.2] 176));by_cases Jv:n<64
 . have hz:(n:Int)<64:=zo
   have e1:(n:Int) / 64=0:=zo
   have e2:(n:Int)%64=(n:Int):=zo
   have xt:s.has n=s.1.testBit n:=by unfold aZ.has;rw[zP Jv]
   have e3:=has_bit s.1 n hs.1 Jv;rw[xt];go_in;go_wp2;go_ret;exact⟨rfl,HB.o⟩
 obtain⟨k,hk⟩:=zE (n-64)
 have e1:(n:Int) / 64=1:=zo
 have e2:(n:Int)%64=(k:Int):=zo
 have hz:(k:Int)<64:=zo
 have xt:s.has n=s.2.testBit k:=by unfold aZ.has;rw[zN Jv,hk]
 have e3:=has_bit s.2 k hs.2 zo;rw[xt];clear xt hk;go_in;go_wp2;go_ret;exact⟨rfl,HB.o⟩
theorem zf3 (s o:aZ) (w:ω) (hs:s.Ok) (ho:o.Ok):
 Γ 65 #[qV s,qV o] w λe w'=>e=ρ (qV (s.or o))/\w.u w':=by
 unfold qV aZ.or;have:=zam s.1 o.1 hs.1 ho.1;have:=zam s.2 o.2 hs.2 ho.2;go_in;go_wp2;refine bodyPost_ret (v:=.agg #[υ ((s.1|||o.1:Nat):Int),υ ((s.2|||o.2:Nat):Int)]) (by simp[results,results65,go_sem]) rfl ⟨rfl,?_⟩;exact ((Ξ w _).alloc zs _).alloc zx _
theorem eq_set (a b c d:Int) (w:ω):(Op.equalIn 10000 176 (.agg #[υ a,υ b]) (.agg #[υ c,υ d])).run prog w=.ok (a==c&&b==d) w:=by
 have:=underlying174;have:=isAgg174;have:=sizeOf174;rw[show (10000:Nat)=9999+1 from rfl,Op.equalIn];simp only[Sem.run_bind,run_underlying underlying176,Result.andThen_ok];simp only[Std.Legacy.Range.forIn_eq_forIn_range',Std.Legacy.Range.size,Nat.sub_zero,Nat.add_sub_cancel,Nat.div_one,List.range'_succ,List.range'_zero,List.forIn_cons,List.forIn_nil];go_simp
 grind
theorem rM (s:aZ) (w:ω):
 Γ 70 #[qV s] w λe w'=>e=ρ (φ (decide (s=(0,0))))/\w.u w':=by
 have he:decide (s=(0,0))=(((s.1:Int)==0)&&((s.2:Int)==0)):=by
  rw[Bool.eq_iff_iff];obtain⟨a,b⟩:=s;simp
 rw[he];unfold qV;have:=eq_set s.1 s.2 0 0;go_in;go_wp2;go_ret;exact⟨rfl,Ξ w _⟩
