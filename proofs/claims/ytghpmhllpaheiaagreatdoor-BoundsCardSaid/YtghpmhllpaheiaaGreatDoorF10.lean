/- Part of a proof. No condition. -/
import Derived.Test.YtghpmhllpaheiaaGreatDoorF01
import Derived.Test.YtghpmhllpaheiaaGreatDoorF06
set_option linter.unusedVariables false
set_option linter.unusedSimpArgs false
set_option maxRecDepth 100000
namespace Go.Proofs.YtghpmhllpaheiaaGreatDoor
open Go.RowKit Go.Lib
variable {tag:Nat->Nat} {w w':World} {Hc:List Nat} {vs:List Value} {G:List bY} {seen:Nat->Bool} {i:Nat} {k:bY} {f:bY->bY}
abbrev aK (a:Nat):Value:=.pointer (some ⟨a,0,none⟩)
structure pH (w:World) (tag:Nat->Nat) (Hc:List Nat) (vs:List Value) (G:List bY) (seen:Nat->Bool):Prop where
 la:Hc.length=G.length
 lv:vs.length=G.length
 cell:∀ i,i<G.length->w.heap[Hc.getD i 0]?=some (.cells #[vs.getD i undef,.int .i64 (aY G i),.bool (dU G i),.bool (seen i)] 143 (0,0))
 row:∀ i,i<G.length->w.ownsRow 0 141 1 (vs.getD i undef) (bC G i).length ((bC G i).map λj=>aK (Hc.getD j 0))
 ta:∀ i,i<G.length->tag (Hc.getD i 0)=10+2*i
 tv:∀ i g,i<G.length->(vs.getD i undef).ownBlock=some g->tag g=11+2*i
 wf:∀ i j,i<G.length->j∈bC G i->j<G.length
structure oF (tag Hd:Nat->Nat) (w w':World):Prop where
 os:w'.os=w.os
 tape:w'.tape=w.tape
 output:w'.output=w.output
 size:w.heap.size<=w'.heap.size
 tags:∀ b,b<w.heap.size->Hd b=tag b
 keep:∀ b,b<w.heap.size->tag b<10->w'.heap[b]?=w.heap[b]?
theorem oF.refl (tag:Nat->Nat) (w:World):oF tag tag w w:=⟨rfl,rfl,rfl,zR _,λ_ _=>rfl,λ_ _ _=>rfl⟩
theorem oF.trans {t1 t2 t3:Nat->Nat} {a b c:World} (h:oF t1 t2 a b) (k:oF t2 t3 b c):oF t1 t3 a c:=
 ⟨k.os.trans h.os,k.tape.trans h.tape,k.output.trans h.output,zT h.size k.size,λx hx=>(k.tags x (zLd hx h.size)).trans (h.tags x hx),
  λx hx ht=>(k.keep x (zLd hx h.size) (by rw[h.tags x hx];exact ht)).trans (h.keep x hx ht)⟩
theorem oF.below (h:Below w.heap.size w w'):oF tag tag w w':=⟨h.os,h.tape,h.output,h.size,λ_ _=>rfl,λb hb _=>h.block b hb⟩
theorem pH.below (h:pH w tag Hc vs G seen) (hb:Below w.heap.size w w'):pH w' tag Hc vs G seen:=
 ⟨h.la,h.lv,λi hi=>(hb.block _ (aA (h.cell i hi))).trans (h.cell i hi),λi hi=>aZ (h.row i hi) hb,h.ta,h.tv,h.wf⟩
theorem pH.apart {Hd:Nat->Nat} (h:pH w tag Hc vs G seen)
 (ht:∀ b,b<w.heap.size->Hd b=tag b) (hk:∀ b,b<w.heap.size->10<=tag b->w'.heap[b]?=w.heap[b]?):pH w' Hd Hc vs G seen:=by
 refine⟨h.la,h.lv,λi hi=> ?_,λi hi=> ?_,λi hi=> ?_,λi g hi hg=> ?_,h.wf⟩
 . exact (hk _ (aA (h.cell i hi)) (by rw[h.ta i hi];omega)).trans (h.cell i hi)
 . exact aU (h.row i hi) λg hg=>hk g ((h.row i hi).lt g hg).2 (by rw[h.tv i g hi hg];omega)
 . rw[ht _ (aA (h.cell i hi))];exact h.ta i hi
 rw[ht _ ((h.row i hi).lt g hg).2];exact h.tv i g hi hg
def dB (tag:Nat->Nat) (n c:Nat):Nat->Nat:=λb=>if b=n then c else tag b
theorem dC {n c b:Nat} (h:b≠n):dB tag n c b=tag b:=zN h
theorem jS (tag:Nat->Nat) (n c:Nat):dB tag n c n=c:=zP rfl
theorem bF {α:Type} {l r:List α} {d:α} (h:i<l.length):(l++r).getD i d=l.getD i d:=by
 rw[zLf,zGl h,<-zLf]
theorem cG {α:Type} {l:List α} {x d:α}:(l++[x]).getD l.length d=x:=by
 rw[zLf,zGr (zR _)];simp
theorem oY (h:i<G.length):bC (G++[k]) i=bC G i:=by unfold bC;rw[zGl h]
theorem za2 (h:i<G.length):aY (G++[k]) i=aY G i:=by unfold aY;rw[zGl h]
theorem finOf_app (h:i<G.length):dU (G++[k]) i=dU G i:=by unfold dU;rw[zGl h]
theorem pH.push (h:pH w tag Hc vs G seen) (n:Nat) (hs:seen G.length=false):
 pH (w.alloc (.cells #[.slice none 0 0,.int .i64 n,.bool false,.bool false] 143)) (dB tag w.heap.size (10+2*G.length)) (Hc++[w.heap.size]) (vs++[.slice none 0 0]) (G++[⟨[],n,false⟩]) seen:=by
 have hb:=(zBr w.heap.size w).alloc (zR _) (.cells #[.slice none 0 0,.int .i64 n,.bool false,.bool false] 143);have Hg:(G++[(⟨[],n,false⟩:bY)]).length=G.length+1:=by simp
 refine⟨by simp[h.la],by simp[h.lv],λi hi=> ?_,λi hi=> ?_,λi hi=> ?_,λi g hi hg=> ?_,λi j hi hj=> ?_⟩
 . rcases zLg i G.length with hl|hl
   . rw[bF (by rw[h.la];exact hl),bF (by rw[h.lv];exact hl),za2 hl,finOf_app hl]
     exact (hb.block _ (aA (h.cell i hl))).trans (h.cell i hl)
   have:i=G.length:=by omega
   subst this
   conv=>lhs;rw[<-h.la,cG,aN,zP rfl]
   conv=>rhs;rw[<-h.lv,cG,h.lv]
   simp[aY,dU,hs]
 . rcases zLg i G.length with hl|hl
   . rw[bF (by rw[h.lv];exact hl),oY hl]
     have e:(bC G i).map (λj=>aK ((Hc++[w.heap.size]).getD j 0))=(bC G i).map λj=>aK (Hc.getD j 0):=
      List.map_congr_left λj hj=>by rw[bF (by rw[h.la];exact h.wf i j hl hj)]
     rw[e];exact aZ (h.row i hl) hb
   have:i=G.length:=by omega
   subst this;have e:bC (G++[(⟨[],n,false⟩:bY)]) G.length=[]:=by simp[bC]
   rw[e]
   conv=>rw[<-h.lv,cG]
   exact nL _ _ _
 . rcases zLg i G.length with hl|hl
   . rw[bF (by rw[h.la];exact hl),dC (by have:=aA (h.cell i hl);omega)]
     exact h.ta i hl
   have:i=G.length:=by omega
   subst this;rw[<-h.la,cG,jS,h.la]
 . rcases zLg i G.length with hl|hl
   . rw[bF (by rw[h.lv];exact hl)] at hg
     rw[dC (by have:=((h.row i hl).lt g hg).2;omega)];exact h.tv i g hl hg
   have:i=G.length:=by omega
   subst this;rw[<-h.lv,cG] at hg;simp[Value.ownBlock] at hg
 rcases zLg i G.length with hl|hl
 . rw[oY hl] at hj
   have:=h.wf i j hl hj;omega
 have:i=G.length:=by omega
 subst this;simp[bC] at hj
theorem oF.push (tag:Nat->Nat) (w:World) (o:Obj) (c:Nat):oF tag (dB tag w.heap.size c) w (w.alloc o):=
 have hb:=(zBr w.heap.size w).alloc (zR _) o
 ⟨hb.os,hb.tape,hb.output,hb.size,λb hx=>dC (by omega),λb hx _=>hb.block b hx⟩
theorem iH {α:Type} {l:List α} {x d:α} (h:i<l.length):(l.set i x).getD i d=x:=by
 rw[zLf,List.getElem?_set_self h];rfl
theorem fS {α:Type} {l:List α} {j:Nat} {x d:α} (h:i≠j):(l.set i x).getD j d=l.getD j d:=by
 rw[zLf,List.getElem?_set_ne h,<-zLf]
theorem zax {j:Nat} (h:i≠j):bC (G.modify i f) j=bC G j:=by unfold bC;rw[List.getElem?_modify];simp[h]
theorem pT (hf:∀ k,(f k).place=k.place) (i j:Nat):aY (G.modify i f) j=aY G j:=by
 unfold aY;rw[List.getElem?_modify];cases G[j]?<;>simp;split<;>simp[hf]
theorem zcT (hf:∀ k,(f k).fin=k.fin) (i j:Nat):dU (G.modify i f) j=dU G j:=by
 unfold dU;rw[List.getElem?_modify];cases G[j]?<;>simp;split<;>simp[hf]
theorem qW {l:List Nat} (h:i<G.length):bC (G.modify i (nT l)) i=bC G i++l:=by
 unfold bC;rw[List.getElem?_modify,zLe h];simp[nT]
theorem pH.link {w2:World} (h:pH w tag Hc vs G seen) (i:Nat) (hi:i<G.length) (l:List Nat) (hl:∀ j∈l,j<G.length)
 (o:Obj) (v':Value) (Hb:w2.ownsRow 0 141 1 v' ((bC G i).length+l.length) ((bC G i).map (λj=>aK (Hc.getD j 0))++l.map λj=>aK (Hc.getD j 0)))
 (hg:(w.alloc o).grownBy w2 (vs.getD i undef).ownBlock) (hb:v'.ownBlock=(vs.getD i undef).ownBlock\/v'.ownBlock=some (w.alloc o).heap.size):
 ∃ Hd,pH (w2.setCell ⟨Hc.getD i 0,0,none⟩ v') Hd Hc (vs.set i v') (G.modify i (nT l)) seen/\oF tag Hd w (w2.setCell ⟨Hc.getD i 0,0,none⟩ v'):=by
 have hB:=(zBr w.heap.size w).alloc (zR _) o;have h1:=h.below hB;have Yh:=aA (h.cell i hi);have xn:∀ b,b<w.heap.size->tag b≠10+2*i->tag b≠11+2*i->(w2.setCell ⟨Hc.getD i 0,0,none⟩ v').heap[b]?=w.heap[b]?:=by
  intro b Ny eg Um;rw[aG _ _ _ _ (λe=>eg (by rw[show b=Hc.getD i 0 from e];exact h.ta i hi))];exact (hg.block b (zLd Ny hB.size) (λe=>Um (h.tv i b hi e.symm))).trans (hB.block b Ny)
 have Qc:w.heap.size+1<=w2.heap.size:=by have:=hg.size;simpa using this
 have Ku:∀ g,v'.ownBlock=some g->g<w2.heap.size/\(tag g=11+2*i/\g<w.heap.size\/g=w.heap.size+1):=by
  intro g qn;refine⟨(Hb.lt g qn).2,?_⟩
  rcases hb with e|e
  . rw[qn] at e
    have:=((h.row i hi).lt g e.symm).2;exact .inl ⟨h.tv i g hi e.symm,this⟩
  rw[qn] at e;cases e;exact .inr (by simp)
 refine⟨dB tag (w.heap.size+1) (11+2*i),⟨?_,?_,?_,?_,?_,?_,?_⟩,?_⟩
 . simpa using h.la
 . simpa using h.lv
 . intro j hj
   have kw:j<G.length:=by simpa using hj
   rw[pT (f:=nT l) (λ_=>rfl),zcT (f:=nT l) (λ_=>rfl)];by_cases e:i=j
   . subst e
     rw[iH (by rw[h.lv];exact hi)];have hc:w2.heap[Hc.getD i 0]?=some (.cells #[vs.getD i undef,.int .i64 (aY G i),.bool (dU G i),.bool (seen i)] 143 (0,0)):=
      (hg.block _ (zLd Yh hB.size) (λe=>by have:=h.tv i _ hi e.symm;rw[h.ta i hi] at this;omega)).trans ((hB.block _ Yh).trans (h.cell i hi))
     rw[aC _ _ _ _ _ _ _ hc];rfl
   rw[fS e,xn _ (aA (h.cell j kw)) (by rw[h.ta j kw];omega) (by rw[h.ta j kw];omega)]
   exact h.cell j kw
 . intro j hj
   have kw:j<G.length:=by simpa using hj
   by_cases e:i=j
   . subst e
     rw[iH (by rw[h.lv];exact hi),qW hi,zLn,List.map_append];refine aU Hb λg qn=> ?_;rw[aG _ _ _ _ (by
      intro e2;have e3:g=Hc.getD i 0:=e2
      rcases (Ku g qn).2 with⟨h1,_⟩|h1
      . rw[e3,h.ta i hi] at h1;omega
      omega)]
   rw[fS e,zax e]
   exact aU (h.row j kw) λg qn=>xn g ((h.row j kw).lt g qn).2 (by rw[h.tv j g kw qn];omega) (by rw[h.tv j g kw qn];omega)
 . intro j hj
   have kw:j<G.length:=by simpa using hj
   rw[dC (by have:=aA (h.cell j kw);omega)];exact h.ta j kw
 . intro j g hj qn
   have kw:j<G.length:=by simpa using hj
   by_cases e:i=j
   . subst e
     rw[iH (by rw[h.lv];exact hi)] at qn
     rcases (Ku g qn).2 with⟨h1,h2⟩|h1
     . rw[dC (by omega)];exact h1
     rw[h1,jS]
   rw[fS e] at qn
   rw[dC (by have:=((h.row j kw).lt g qn).2;omega)];exact h.tv j g kw qn
 . intro a b ha Q1
   have Sa:a<G.length:=by simpa using ha
   simp only[List.length_modify];by_cases e:i=a
   . subst e
     rw[qW hi,zMa] at Q1
     rcases Q1 with Q1|Q1
     . exact h.wf i b hi Q1
     exact hl b Q1
   rw[zax e] at Q1
   exact h.wf a b Sa Q1
 refine⟨hg.os.trans hB.os,hg.tape.trans hB.tape,hg.output.trans hB.output,by simp;omega,λb Ny=>dC (by omega),λb Ny ht=>xn b Ny (by omega) (by omega)⟩
abbrev W64:Nat:=18446744073709551616
def nY (s:aW):Value:=.agg #[.int .u64 s.1,.int .u64 s.2]
def aW.Ok (s:aW):Prop:=s.1<W64/\s.2<W64
def jE (w:World) (b:Nat) (s:aW):Prop:=w.heap[b]?=some (.cells #[.int .u64 s.1,.int .u64 s.2] 147 (0,0))
theorem jE.cells {b:Nat} {s:aW} (h:jE w b s):w.cell? ⟨b,0,none⟩=some (.int .u64 s.1)/\w.cell? ⟨b,1,none⟩=some (.int .u64 s.2):=by
 have c0:=aB w b 0 _ _ _ h;have c1:=aB w b 1 _ _ _ h;simp only[zLa,zLb,zLc] at c0 c1;exact⟨c0,c1⟩
theorem sX (a b:Nat) (ha:a<W64) (hb:b<W64):bits .or .u64 (a:Int) (b:Int)=((a|||b:Nat):Int):=bits_or_u64_nat a b ha hb
theorem zaA (a k:Nat) (ha:a<W64) (hk:k<64):bits .or .u64 (a:Int) ((2:Int)^k)=((a|||2^k:Nat):Int):=by
 rw[<-sX a (2^k) ha (Nat.pow_lt_pow_right (by decide) hk)];push_cast;rfl
theorem za3 (k:Nat) (hk:k<64):2^k<W64:=Nat.pow_lt_pow_right (by decide) hk
theorem zbR (k:Nat) (hk:k<64):IntKind.u64.wrap ((2:Int)^k)=((2^k:Nat):Int):=by
 have h:=za3 k hk;rw[IntKind.wrap_u64,show ((2:Int)^k)=((2^k:Nat):Int) by push_cast;rfl];generalize (2:Nat)^k=p at h;unfold W64 at h;omega
theorem zep {s:aW} {n:Nat} (h:s.Ok) (hn:n<128):(s.add n).Ok:=by
 unfold aW.add;split
 . exact⟨Nat.or_lt_two_pow (n:=64) h.1 (za3 n (by omega)),h.2⟩
 exact⟨h.1,Nat.or_lt_two_pow (n:=64) h.2 (za3 (n-64) (by omega))⟩
def AddO (b n:Nat) (s:aW) (w:World) (e:Ending) (w':World):Prop:=e=.returned (.tuple #[])/\jE w' b (s.add n)/\w.grownBy w' (some b)
theorem yN (b n:Nat) (s:aW) (w:World) (h:jE w b s) (hs:s.Ok) (hn:n<128):
 Calls Tryz.prog 62 #[.pointer (some ⟨b,0,none⟩),.int .i64 n] w (AddO b n s w):=by
 have H:=zh h;obtain⟨c0,c1⟩:=h.cells;have f0:=aM w b 0 _ _ h;have f1:=aM w b 1 _ _ h;clear h;by_cases kh:n<64
 . have hz:(n:Int)<64:=by omega
   have e1:(n:Int) / 64=0:=by omega
   have e2:(n:Int)%64=(n:Int):=by omega
   have e3:=zbR n kh;have e4:=zaA s.1 n hs.1 kh;have YA:s.add n=(s.1|||2^n,s.2):=by unfold aW.add;rw[zP kh]
   have HA:=zh YA;clear YA;go_enter Tryz.func62,Tryz.ntmps62
   go_region
   all_goals (go_end0;exact⟨rfl,by rw[HA.o];exact aC w b 0 _ _ _ _ H.o,bH (jN w b 0 _) 1⟩)
 have e1:(n:Int) / 64=1:=by omega
 obtain⟨k,hk⟩:=zE (n-64);have e2:(n:Int)%64=(k:Int):=by omega
 have Gw:k<64:=by omega
 have e3:=zbR k Gw;have e4:=zaA s.2 k hs.2 Gw;have YA:s.add n=(s.1,s.2|||2^k):=by unfold aW.add;rw[zN kh,hk]
 have HA:=zh YA;clear YA hk;go_enter Tryz.func62,Tryz.ntmps62
 go_region
 all_goals (go_end0;exact⟨rfl,by rw[HA.o];exact aC w b 1 _ _ _ _ H.o,bH (jN w b 1 _) 1⟩)
theorem has_bit (a k:Nat) (ha:a<W64) (hk:k<64):(bits .and .u64 ((a:Int) / (2:Int)^k) 1==1)=a.testBit k:=by
 have h1:((a:Int) / (2:Int)^k)=((a / 2^k:Nat):Int):=by push_cast;rfl
 have hb:bits .and .u64 ((a / 2^k:Nat):Int) ((1:Nat):Int)=(((a / 2^k)&&& 1:Nat):Int):=bits_and_u64_nat _ _ (Nat.lt_of_le_of_lt (Nat.div_le_self _ _) ha) (by decide);rw[h1,show (1:Int)=((1:Nat):Int) from rfl,hb,Nat.and_one_is_mod,Nat.testBit_eq_decide_div_mod_eq];rw[Bool.eq_iff_iff];simp;omega
theorem zbM (n:Nat) (s:aW) (w:World) (hs:s.Ok) (hn:n<128):
 Calls Tryz.prog 63 #[nY s,.int .i64 n] w λe w'=>e=.returned (.bool (s.has n))/\Below w.heap.size w w':=by
 unfold nY;have HB:=zh ((zBr w.heap.size w).alloc (zR _) (.cells #[.int .u64 s.1,.int .u64 s.2] 147));by_cases kh:n<64
 . have hz:(n:Int)<64:=by omega
   have e1:(n:Int) / 64=0:=by omega
   have e2:(n:Int)%64=(n:Int):=by omega
   have YA:s.has n=s.1.testBit n:=by unfold aW.has;rw[zP kh]
   have e3:=has_bit s.1 n hs.1 kh;rw[YA];clear YA;go_enter Tryz.func63,Tryz.ntmps63;go_wp2;go_ret;exact⟨rfl,HB.o⟩
 obtain⟨k,hk⟩:=zE (n-64)
 have e1:(n:Int) / 64=1:=by omega
 have e2:(n:Int)%64=(k:Int):=by omega
 have hz:(k:Int)<64:=by omega
 have YA:s.has n=s.2.testBit k:=by unfold aW.has;rw[zN kh,hk]
 have e3:=has_bit s.2 k hs.2 (by omega);rw[YA];clear YA hk;go_enter Tryz.func63,Tryz.ntmps63;go_wp2;go_ret;exact⟨rfl,HB.o⟩
theorem zdt (s o:aW) (w:World) (hs:s.Ok) (ho:o.Ok):
 Calls Tryz.prog 59 #[nY s,nY o] w λe w'=>e=.returned (nY (s.or o))/\Below w.heap.size w w':=by
 unfold nY aW.or;have e0:=sX s.1 o.1 hs.1 ho.1;have e1:=sX s.2 o.2 hs.2 ho.2;go_enter Tryz.func59,Tryz.ntmps59;go_wp2;refine bodyPost_ret (v:=.agg #[.int .u64 ((s.1|||o.1:Nat):Int),.int .u64 ((s.2|||o.2:Nat):Int)]) (by simp[results,Tryz.results59,go_sem]) rfl ⟨rfl,?_⟩;exact (((zBr _ w).alloc (zR _) _).alloc (by simp) _).alloc (by simp;omega) _
theorem eq_set (a b c d:Int) (w:World):(Op.equalIn 10000 147 (.agg #[.int .u64 a,.int .u64 b]) (.agg #[.int .u64 c,.int .u64 d])).run Tryz.prog w=.ok (a==c&&b==d) w:=by
 have u3:=Tryz.underlying145;have a3:=Tryz.isAgg145;have z3:=Tryz.sizeOf145;rw[show (10000:Nat)=9999+1 from rfl,Op.equalIn];simp only[Sem.run_bind,run_underlying Tryz.underlying147,Result.andThen_ok];simp only[Std.Legacy.Range.forIn_eq_forIn_range',Std.Legacy.Range.size,Nat.sub_zero,Nat.add_sub_cancel,Nat.div_one,List.range'_succ,List.range'_zero,List.forIn_cons,List.forIn_nil];go_simp;by_cases h1:a=c<;>by_cases h2:b=d<;>simp[h1,h2]
theorem oL (s:aW) (w:World):
 Calls Tryz.prog 64 #[nY s] w λe w'=>e=.returned (.bool (decide (s=(0,0))))/\Below w.heap.size w w':=by
 have he:decide (s=(0,0))=(((s.1:Int)==0)&&((s.2:Int)==0)):=by
  rw[Bool.eq_iff_iff];obtain⟨a,b⟩:=s;simp
 rw[he];unfold nY;have hq:=eq_set s.1 s.2 0 0;go_enter Tryz.func64,Tryz.ntmps64;go_wp2;go_ret;exact⟨rfl,(zBr _ w).alloc (zR _) _⟩
