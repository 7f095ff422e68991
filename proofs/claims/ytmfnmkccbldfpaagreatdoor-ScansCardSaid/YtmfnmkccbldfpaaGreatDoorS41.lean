/- Part of a proof. No condition. -/
import Derived.Test.YtmfnmkccbldfpaaGreatDoorS22
import Derived.Laws.CopyOwn
import Derived.Test.YtmfnmkccbldfpaaGreatDoorS39
set_option linter.unusedVariables false
set_option linter.unusedSimpArgs false
set_option maxRecDepth 100000
set_option maxHeartbeats 4000000
namespace Go.Proofs.YtmfnmkccbldfpaaGreatDoor
open Go.RowKit Go.Lib Tryz
abbrev lJ:η:=⟨#[98,101,121,111,110,100]⟩
abbrev goneS:η:=⟨#[103,111,110,101]⟩
theorem make_strs (n:Nat) (hn:n<=1000000) (w:ω):(Instr.makeSlice 30 (ι (n:Int)) (ι (n:Int))).run prog w=.ok (σ w.t n n) (κ w (Ω (ψ n (Value.string ⟨#[]⟩)).toArray 9)):=by
 obtain⟨i,h1,h2,h3,h4⟩:=info_parts (P:=prog) (e:=9) (z:=γ ⟨#[]⟩) (size:=1) (bytes:=16) zK;have:=run_makeSlice w 30 9 i (γ ⟨#[]⟩) underlying30 h1 h2 .i64 .i64 n n zo (Int.le_refl _) zg zg zo;have e:madeCells (Value.string ⟨#[]⟩).cells n=(ψ n (Value.string ⟨#[]⟩)).toArray:=by
  apply Array.ext';have e1:(madeCells (Value.string ⟨#[]⟩).cells n).toList=ψ n (γ ⟨#[]⟩):=toList_madeCells_one _ _;rw[e1]
 grind
def zdj (w:ω) (g:Nat) (sT:List η):Prop:=w.h g (sT.map Value.string++[Value.string lJ,Value.string lJ]).toArray 9
theorem zei {w:ω} {g:Nat} {sT:List η} (h:zdj w g sT) (hl:I sT<=900000):w.r 9 1 (σ g (I sT) (I sT+2)) (I sT) (sT.map Value.string):=by
 refine⟨zs,.inr ⟨g,I sT+2,_,rfl,rC,h,zo,by unfold maxLen;omega,zs,?_⟩⟩;simp
theorem ziB (sT:List η):((splice (ψ (I sT+2) (Value.string ⟨#[]⟩)) 0 (sT.map Value.string)).set (I sT) (Value.string lJ)).set (I sT+1) (Value.string lJ)=sT.map Value.string++[Value.string lJ,Value.string lJ]:=by
 have:splice (ψ (I sT+2) (Value.string ⟨#[]⟩)) 0 (sT.map Value.string)=sT.map Value.string++[Value.string ⟨#[]⟩,Value.string ⟨#[]⟩]:=by
  unfold splice;simp[List.drop_replicate]
 simp_all
theorem ziC (sT:List η) (w:ω) (v:Value) (Hb:w.r 9 1 v (I sT) (sT.map Value.string)) (hl:I sT<=900000):
 Γ 15 #[v] w λe w'=>∃ g,e=ρ (σ g (I sT) (I sT+2))/\zdj w' g sT/\w.t<=g/\w.u w':=by
 have K4:=make_strs (I sT+2) zo w;rw[show ((I sT+2:Nat):Int)=(I sT:Int)+2 by omega] at K4;obtain⟨zs,CC⟩:=zE (ψ (I sT+2) (Value.string ⟨#[]⟩));rw[<-CC] at K4;have hzl:I zs=I sT+2:=by rw[CC];simp
 have:=lM (n:=(I sT:Int)+2);have:=mF (I sT);obtain⟨ao,cap,hv⟩:=bJ Hb;obtain⟨g,hg⟩:=zE (w.heap.size);obtain⟨cs,YA⟩:=zE (sT.map Value.string);have po:0<I cs->∃ ad,ao=some ad/\∀ j u,cs[j]?=some u->(κ w (Ω zs.toArray 9)).cell? (ad.add j)=some u:=λh0=>by
  rcases aY Hb with⟨e,hn⟩|⟨g2,Q6,e,_⟩
  . grind
  rw[e] at hv
  cases hv;refine⟨_,rfl,λj u hu=> ?_⟩;have xt:(g2.a:Addr).add j=(g2.p j):=by unfold Addr.add;split<;>simp_all
  rw[xt];rw[e] at Hb;exact (aG ((zBr w.t w).alloc bR _) _ (Hb.lt g2 rfl).2).trans (aJ Hb j u zg)
 have Ho:I cs=I sT:=by rw[YA];simp
 have XI:∀ u∈cs,u.oneCell'=true:=λu hu=>by
  rw[YA] at hu;exact zzDF
 subst hv;have HS:=Λ po Ho XI;have HC:=zh YA;have Sg:=Θ CC hzl;have HGE:=zh hg;clear Hb po Ho XI YA CC hzl hg;go_in
 go_upto_region 4 with (refine wpList_copy_splice rfl (.tmp 10) (.tmp 11) 30 30 rfl 9 underlying30 zr _ _ _ _ _ _ rfl rfl w.t 0 zs 9 (bA _ _ _ rfl) cs (by rw[HS.o.2.1];exact (Nat.min_eq_left zo).symm) (λh0=>⟨rfl,HS.o.1 h0⟩) (by have:=HS.o.2.1;have:=Sg.o.2;omega) HS.o.2.2 w.t w ((zBr w.t w).alloc bR _) bR ?_;intro w1 QU Hk)
 replace QU:=zh (show w1.heap[w.heap.size]?=some (.cells (splice zs 0 cs).toArray 9 (0,0)) from QU)
 rw[<-HGE.o] at QU ⊢;have hz:I (splice zs 0 cs)=I sT+2:=by
  rw[length_splice _ _ _ (by have:=HS.o.2.1;have:=Sg.o.2;omega)];exact Sg.o.2
 have h1:=QU.o;have c0:=bF _ _ (I sT) _ _ _ h1;have c1:=bF _ _ (I sT+1) _ _ _ h1;have:=bN _ _ (I sT) _ _ h1;have:=bN _ _ (I sT+1) _ _ h1;rw[zLa,zLe zo] at c0 c1;obtain⟨x0,y0⟩:∃ x,w1.v g (I sT) x:=⟨_,c0⟩;obtain⟨x1,y1⟩:∃ x,w1.v g (I sT+1) x:=⟨_,c1⟩;have:(I sT:Int)<(I sT:Int)+2:=zo
 have XW:=zh Hk;clear h1 Hk c0 c1 hz;go_wp2;go_ret;have h2:=aB _ g (I sT) (γ lJ) _ _ _ QU.o;have h3:=aB _ g (I sT+1) (γ lJ) _ _ _ h2;have hg:=HGE.o;refine⟨g,rfl,?_,zo,?_⟩
 . unfold zdj
   rw[h3,<-ziB sT,<-HC.o,<-Sg.o.1];simp
 exact (XW.o.setCell (p:=((g.p (I sT)):Addr)) zg _).setCell (p:=((g.p (I sT+1)):Addr)) zg _
theorem zf7 (sT:List η) (w:ω) (g:Nat) (v:Value) (hg:zdj w g sT) (Hb:w.r 9 1 v (I sT) (sT.map Value.string)) (hl:I sT<=900000):
 Γ 17 #[σ g (I sT) (I sT+2),v] w λe w'=>e=ρ (φ true)/\w.g w' g/\w'.heap.size=w.heap.size:=by
 have:=lM (n:=(I sT:Int)+2);have:=mF (I sT);obtain⟨ao,cap,hv⟩:=bJ Hb;have hc:∀ (i:Nat) (s:η),sT[i]?=some s->w.v g i (γ s)/\∃ g2,ao=some ⟨g2,0,none⟩/\g2<w.t/\w.v g2 i (γ s):=λi s hs=>by
  have hi:=(List.getElem?_eq_some_iff.1 hs).1;refine⟨aJ (zei hg hl) i _ zg,?_⟩
  grind [aY,aJ]
 have c0:=bF _ _ (I sT) _ _ _ hg;have c1:=bF _ _ (I sT+1) _ _ _ hg;have e0:(sT.map Value.string++[Value.string lJ,Value.string lJ])[I sT]?=some (γ lJ):=by rw[zGr zs];simp
 have e1:(sT.map Value.string++[Value.string lJ,Value.string lJ])[I sT+1]?=some (γ lJ):=by rw[zGr zs];simp
 rw[zLa,e0] at c0;rw[zLa,e1] at c1;have lg:=aA hg;have:(I sT:Int)<(I sT:Int)+2:=zo
 subst hv;have HC:=zh hc;have HG:=zh hg;clear Hb hc hg e0 e1;go_in;go_wp2;clear c0 c1;go_loopw [7,8] (λs7 s8 wr=>∃ i:Nat,s7=φ true/\s8=ι i/\i<=I sT/\w.u wr/\wr.heap.size=w.heap.size) (λ_ s8 _=>I sT-(ϑ s8).toNat)
 case atStart=>grind [zBr]
 case round=>
  obtain⟨i,rfl,rfl,hi,hb,hz⟩:=hrel;have HB:=zh hb;have HZ:=zh hz;clear hb hz;by_cases Hf:i<I sT
  . have hz:=zt i (I sT)
    have Kf:(i:Int)<(I sT:Int)+2:=zo
    obtain⟨s,hs⟩:=zG sT i Hf;obtain⟨ca,g2,rfl,l2,cb⟩:=HC.o i s hs;have:=(aG HB.o (g.p i) lg).trans ca;have:=(aG HB.o (g2.p i) l2).trans cb;have:=mF i;clear hs ca cb;go_wp2;go_quiet (fail);go_wp2;go_roundw
    case rel=>exact⟨i+1,rfl,by go_num,zo,aK HB.o _,HZ.o⟩
    grind [RowKit.intOf]
  have hz:=zn i (I sT)
  obtain⟨u,hu⟩:=zE (wr);have Hh:∃ xs:Array Value,wr.h g xs 9/\xs.size=I sT+2:=⟨_,(HB.o.block g lg).trans HG.o,zs⟩;have Hl:=zh Hh;have Qw:=zh (aH HB.o (some g));clear Hh;go_wp2;go_loopw [9] (λs9 wr2=>∃ (j:Nat) (xs:Array Value),s9=ι j/\j<=I sT+2/\wr2.h g xs 9/\xs.size=I sT+2/\w.g wr2 g/\wr2.heap.size=w.heap.size) (λs9 _=>I sT+2-(ϑ s9).toNat)
  case atStart=>
   obtain⟨xs,h1,h2⟩:=Hl.o;exact⟨0,xs,rfl,zo,h1,h2,Qw.o,HZ.o⟩
  case round=>
   obtain⟨j,xs,rfl,hj,h1,h2,h3,h4⟩:=hrel;have H1:=Ψ h1 h2 h3 h4;by_cases Du:j<I sT+2
   . have Kf:(j:Int)<(I sT:Int)+2:=zo
     have cj:=bF _ _ j _ _ _ h1;have:=bN _ _ j _ _ h1;rw[Array.getElem?_eq_getElem zo] at cj;obtain⟨vj,hvj⟩:∃ v,wr.v g j v:=⟨_,cj⟩;clear cj;have:=mF j;clear h1 h2 h3 h4;go_wp2;go_roundw
     case rel=>exact⟨j+1,_,by go_num,zo,aB _ g j (γ goneS) _ _ _ H1.o.1,by rw[Array.size_setIfInBounds];exact H1.o.2.1,aC H1.o.2.2.1 (bQ _ g j _),by rw[<-H1.o.2.2.2];simp⟩
     case measure=>exact zY
   have Kf:¬ (j:Int)<(I sT:Int)+2:=zo
   clear h1 h2 h3 h4;go_wp2;go_ret;exact⟨rfl,H1.o.2.2⟩
theorem zzCn {p:Prop} (h:p:=by
 rw[H1.o.2.1.block n0 (by simp;have:=uu.o;omega) (λe=>by cases e)];exact bA _ _ _ uu.o):p:=h
theorem zzCE {p:Prop} (h:p:=by
 go_wp2_with fail;go_roundw
 case rel=>exact⟨j+1,by go_num,by rw[Qo.o];rfl,zo,trivial⟩
 case measure=>exact zY):p:=h
variable {w:ω}
def pE (c:Int) (n:Nat):Nat:=(if c<0 then -(c+1) else c).toNat%n
theorem za0 (c:Int) (n:Nat) (hc: -9223372036854775808<=c/\c<=9223372036854775807) (hn:0<n) (XG:n<=1000000) (w:ω):
 Γ 10 #[ι c,ι n] w λe w'=>e=ρ (ι (pE c n))/\w'=w:=by
 by_cases h:c<0
 . have:=lM (n:=c+1)
   have:=lM (n:= -(c+1));go_in;go_wp2;go_ret;refine⟨?_,rfl⟩;have e3: -(c+1).tmod (n:Int)=((pE c n:Nat):Int):=by
    unfold pE;rw[zP h,<-Int.neg_tmod,Int.tmod_eq_emod_of_nonneg zo,Int.natCast_emod,Int.toNat_of_nonneg zo]
   simp_all
 go_in
 go_wp2;go_ret;refine⟨?_,rfl⟩;have e3:c%(n:Int)=((pE c n:Nat):Int):=by
  unfold pE;rw[zN zo,Int.natCast_emod,Int.toNat_of_nonneg zo]
 simp_all
structure sO where
 kind:Int
 x:Int
 a:Int
 b:Int
 s:η
def sO.cells (o:sO):Array Value:=#[ι o.kind,ι o.x,ι o.a,ι o.b,γ o.s]
def In64 (c:Int):Prop:= -9223372036854775808<=c/\c<=9223372036854775807
structure sO.Ok (o:sO):Prop where
 x:In64 o.x
 a:In64 o.a
 b:In64 o.b
structure Wld where
 sT:List η
 pcs:List Pc
 ts:ο
 ss:ο
 last:η
structure lO (w:ω) (wb:Nat) (X:Wld) (vR vP vT vS:Value):Prop where
 blk:w.h wb #[vR,vP,vT,vS,γ X.last] 35
 rr:w.r 9 1 vR (I X.sT) (X.sT.map Value.string)
 rp:w.r 47 3 vP (I X.pcs) (dY X.pcs)
 rt:w.r 37 1 vT (I X.ts) (X.ts.map bH)
 rs:w.r 43 1 vS (I X.ss) (X.ss.map bH)
 tn:X.ts=[]->vT=ν
 sn:X.ss=[]->vS=ν
section
variable {w w2:ω} {wb:Nat} {X:Wld} {vR vP vT vS v:Value}
theorem lO.lt (h:lO w wb X vR vP vT vS):wb<w.t:=aA h.blk
theorem lO.below (h:lO w wb X vR vP vT vS) (hb:w.u w2):lO w2 wb X vR vP vT vS:=
 ⟨(hb.block _ h.lt).trans h.blk,aN h.rr hb,aN h.rp hb,aN h.rt hb,aN h.rs hb,h.tn,h.sn⟩
theorem lO.oth {e:TypeId} {size n:Nat} {u:Value} {xs:ζ} (h:lO w wb X vR vP vT vS) (hr:w.r e size u n xs) (he:e≠35) (i:Nat) (v:Value):(ς w (wb.p i) v).r e size u n xs:=
 dZ hr h.blk he λg hg=>aD _ _ _ _ hg
theorem lO.setR (h:lO w wb X vR vP vT vS) {l:List η} (hr:w.r 9 1 v (I l) (l.map Value.string)):lO (ς w wb.a v) wb {X with sT:=l} v vP vT vS:=
 ⟨by rw[aB _ wb 0 _ _ _ _ h.blk];rfl,h.oth hr zd _ _,h.oth h.rp zd _ _,h.oth h.rt zd _ _,h.oth h.rs zd _ _,h.tn,h.sn⟩
theorem lO.setP (h:lO w wb X vR vP vT vS) {l:List Pc} (hr:w.r 47 3 v (I l) (dY l)):lO (ς w (wb.p 1) v) wb {X with pcs:=l} vR v vT vS:=
 ⟨by rw[aB _ wb 1 _ _ _ _ h.blk];rfl,h.oth h.rr zd _ _,h.oth hr zd _ _,h.oth h.rt zd _ _,h.oth h.rs zd _ _,h.tn,h.sn⟩
end
def ownP (o:sO) (X:Wld):Option Wld:=
 if o.kind=1 then some {X with sT:=X.sT++[o.s]}
 else if o.kind=2 then some {X with sT:=[]}
 else if o.kind=3 then some {X with pcs:=X.pcs++[⟨o.s,pE o.a 12,pE o.b 6⟩]}
 else if o.kind=4 then some {X with pcs:=[]}
 else none
def OwnO (o:sO) (wb:Nat) (X:Wld) (vT vS:Value) (w:ω) (e:Ending) (w':ω):Prop:=
 w.g w' wb/\((ownP o X=none/\e=ρ (φ false)/\w.u w')\/∃ Y vR vP,ownP o X=some Y/\e=ρ (φ true)/\lO w' wb Y vR vP vT vS)
theorem elemStr:eO prog 30 9 1 16:=eO.of (z:=γ ⟨#[]⟩) underlying30 zK rfl zd
theorem strs_one (l:List η):∀ u∈l.map Value.string,u.oneCell'=true:=λu hu=>by
 exact zzDF
theorem ze4 {wa w1 w2:ω} {ob:Obj} {v1:Value} (ha:w.u wa) (QU:wa.grownBy w1 none) (Hk:β v1=none\/β v1=some wa.heap.size) (qk:(κ w1 ob).grownBy w2 (β v1)):w.u w2:=by
 have h1:w.u w1:=ha.grown QU ha.size (λk h=>by cases h);refine (h1.alloc h1.size ob).grown qk (by simp;have:=h1.size;omega) (λk hk=> ?_)
 rcases Hk with e|e
 . grind
 rw[hk] at e;cases e;exact ha.size
theorem zhQ (l:List Pc) (p:Pc):dY (l++[p])=dY l++[γ p.text,ι p.n,ι p.kind]:=by simp[dY]
theorem owner_any (o:sO) (ho:o.Ok) (w:ω) (wb:Nat) (X:Wld) (vR vP vT vS:Value) (h:lO w wb X vR vP vT vS) (hl:I X.sT<=900000/\I X.pcs<=900000):
 Γ 8 #[bH wb,.agg o.cells] w (OwnO o wb X vT vS w):=by
 have H:=zh h;have HO:=zh ho;have HL:=zh hl;obtain⟨kind,x,a,b,s⟩:=o;have b0:=zq 0 h.blk;have b1:=zq 1 h.blk;have:=zF 0 h.blk;have:=zF 1 h.blk;have lb:=aA h.blk;obtain⟨aR,cR,kh⟩:=bJ h.rr;obtain⟨aP,cP,Ru⟩:=bJ h.rp;rw[kh] at b0 H;rw[Ru] at b1 H;clear h ho hl kh Ru;obtain⟨n0,Yn⟩:=zE (w.heap.size)
 have YV:=(zBr w.t w).alloc bR (Ω #[ι kind,ι x,ι a,ι b,γ s] 27);have JK:=zh YV;have uu:=zh Yn;have Km:=zh (aN H.o.rr YV);have HRP:=zh (aN H.o.rp YV);have Eb:zH (∀ w,Γ 10 #[ι a,ι 12] w λe w'=>e=ρ (ι (pE a 12))/\w'=w):=zh (λw=>za0 a 12 HO.o.a zd zd w)
 have tL:zH (∀ w,Γ 10 #[ι b,ι 6] w λe w'=>e=ρ (ι (pE b 6))/\w'=w):=zh (λw=>za0 b 6 HO.o.b zd zd w);unfold bH sO.cells;clear YV Yn;by_cases k1:kind=1
 . subst k1
   go_in;go_upto_region 6 with (at_builtin;refine lK _ rfl _ _ rfl elemStr _ _ _ rfl zzB8 _ (I X.sT) (X.sT.map Value.string) rfl (by exact Km.o) (strs_one _) zzBi zd ?_;intro v1 w1 qc QE YI;have H1:=Λ qc QE YI;clear qc QE YI)
   rw[<-uu.o];obtain⟨a1,c1,CZ⟩:=bJ H1.o.1;subst CZ;have ZG:w.u w1:=JK.o.grown H1.o.2.1 JK.o.size (λk h=>by cases h);have kw:w1.h n0 #[ι 1,ι x,ι a,ι b,γ s] 27:=by
    exact zzCn
   have q4:=zq 4 kw;clear kw
   go_wp2_with (at_builtin;refine dM rfl elemStr rfl (by exact (H1.o.1.alloc _)) [γ s] zzBi ?_;intro v2 w2 qt Qp QX;obtain⟨a2,c2,jm⟩:=bJ qt;subst jm;have Hm:=ze4 JK.o H1.o.2.1 H1.o.2.2 Qp;have:=(aG Hm wb.a lb).trans b0;have:=zF 0 ((Hm.block wb lb).trans H.o.blk);have H2:=Θ qt Hm;clear qt Qp QX Hm)
   go_ret;refine⟨aC (aH H2.o.2 _) (bQ _ wb 0 _),.inr ⟨_,_,_,zP rfl,rfl,(H.o.below H2.o.2).setR (l:=X.sT++[s]) ?_⟩⟩;have h:=H2.o.1;simpa using h
 by_cases k2:kind=2
 . subst k2
   go_in;go_wp2;go_ret;have h1:=H.o.setR (v:=ν) (l:=[]) (World.ownsRow_nil _ _ _ _);refine⟨?_,.inr ⟨_,_,_,zr,rfl,h1.below (iM.alloc bR _)⟩⟩;exact aC (bQ w wb 0 _) (aH (iM.alloc bR _) _)
 by_cases k3:kind=3
 . subst k3
   have YV:=JK.o;go_in;go_upto_region 11 with (go_at_call 10;refine (Eb.o _).mono ?_;rintro e9 w3 ⟨rfl,rfl⟩)
   go_upto_region 12 with (go_at_call 10;refine (tL.o _).mono ?_;rintro e9 w3 ⟨rfl,rfl⟩)
   go_upto_region 14 with (at_builtin;refine lK _ rfl _ _ rfl oD _ _ _ rfl zzB8 _ (I X.pcs) (dY X.pcs) rfl (by exact HRP.o) (zcF _) zzBi zd ?_;intro v1 w1 qc QE YI;have H1:=Λ qc QE YI;clear qc QE YI)
   rw[<-uu.o];obtain⟨a1,c1,CZ⟩:=bJ H1.o.1;subst CZ;have ZG:w.u w1:=JK.o.grown H1.o.2.1 JK.o.size (λk h=>by cases h);have kw:w1.h n0 #[ι 3,ι x,ι a,ι b,γ s] 27:=by
    exact zzCn
   have q4:=zq 4 kw;clear kw
   go_wp2_with (at_builtin;refine dM rfl oD rfl (by exact (H1.o.1.alloc _)) [γ s,ι (pE a 12),ι (pE b 6)] zzBi ?_;intro v2 w2 qt Qp QX;obtain⟨a2,c2,jm⟩:=bJ qt;subst jm;have Hm:=ze4 JK.o H1.o.2.1 H1.o.2.2 Qp;have:=(aG Hm (wb.p 1) lb).trans b1;have:=zF 1 ((Hm.block wb lb).trans H.o.blk);have H2:=Θ qt Hm;clear qt Qp QX Hm)
   go_ret;refine⟨aC (aH H2.o.2 _) (bQ _ wb 1 _),.inr ⟨_,_,_,zr,rfl,(H.o.below H2.o.2).setP (l:=X.pcs++[⟨s,pE a 12,pE b 6⟩]) ?_⟩⟩;have h:=H2.o.1;rw[zhQ,zLn];simpa using h
 by_cases k4:kind=4
 . subst k4
   go_in;go_wp2;go_ret;have h1:=H.o.setP (v:=ν) (l:=[]) (World.ownsRow_nil _ _ _ _);refine⟨?_,.inr ⟨_,_,_,zr,rfl,h1.below (iM.alloc bR _)⟩⟩;exact aC (bQ w wb 1 _) (aH (iM.alloc bR _) _)
 go_in
 go_wp2;go_ret;exact⟨aH JK.o _,.inl ⟨by grind [ownP],rfl,JK.o⟩⟩
def mM (l:List sO):ζ:=l.flatMap λo=>o.cells.toList
theorem zgO (l:List sO) (i:Nat) (o:sO) (h:l[i]?=some o):(mM l)[i*5]?=some (ι o.kind)/\(mM l)[i*5+1]?=some (ι o.x)/\(mM l)[i*5+2]?=some (ι o.a)/\(mM l)[i*5+3]?=some (ι o.b)/\(mM l)[i*5+4]?=some (γ o.s):=by
 induction l generalizing i with
 | nil=>cases h
 | cons u l ih=>
  have e:mM (u::l)=[ι u.kind,ι u.x,ι u.a,ι u.b,γ u.s]++mM l:=by simp[mM,sO.cells]
  rw[e];cases i with
  | zero=>grind
  | succ i=>
   have:=ih i h;refine⟨?_,?_,?_,?_,?_⟩
   . grind
   . grind
   all_goals grind
def zc4 (w:ω) (ao:Option Addr) (ops:List sO):Prop:=∀ (i:Nat) (o:sO),ops[i]?=some o->∃ b off,ao=some ⟨b,off,none⟩/\b<w.t/\o.s.size<=140737488351232/\o.Ok/\
 w.i b (off+i*5) o.kind/\w.i b (off+(i*5+1)) o.x/\w.i b (off+(i*5+2)) o.a/\w.i b (off+(i*5+3)) o.b/\w.v b (off+(i*5+4)) (γ o.s)
theorem zc4.below {w':ω} {ao:Option Addr} {ops:List sO} (h:zc4 w ao ops) (hb:w.u w'):zc4 w' ao ops:=λi o ho=>by
 obtain⟨b,off,h1,h2,h3,h4,h5,h6,h7,h8,h9⟩:=h i o ho;have:∀ j,w'.cell? (b.p j)=w.cell? (b.p j):=λj=>aG hb (b.p j) h2;exact⟨b,off,h1,zLd h2 hb.size,h3,h4,zg,zg,zg,zg,zg⟩
theorem ziP {v:Value} {ops:List sO} (h:w.r 27 5 v (I ops) (mM ops)) (hs:∀ o∈ops,o.s.size<=140737488351232/\o.Ok):∃ ao cap,v=τ ao (I ops) cap/\zc4 w ao ops:=by
 rcases aY h with⟨rfl,h0⟩|⟨g,cap,rfl,_,hg⟩
 . rw[h0] at h ⊢
   exact⟨none,0,rfl,λi o ho=>zg⟩
 refine⟨_,cap,rfl,λi o ho=> ?_⟩
 grind [zgO,aJ]
theorem zja {l:List sO} {i:Nat} {o:sO} (h:l[i]?=some o):((l.take (i+1)).map (·.s.size)).sum=((l.take i).map (·.s.size)).sum+o.s.size:=by
 grind [List.take_add_one]
def SmallO (ops:List sO) (w:ω) (e:Ending) (w':ω):Prop:=w'=w/\∃ r,e=ρ (φ r)/\(r=true->I ops+(ops.map (·.s.size)).sum<=16384)
theorem small_any (ops:List sO) (w:ω) (ao:Option Addr) (cap:Nat) (h:zc4 w ao ops) (hl:I ops<=140737488351232):
 Γ 5 #[τ ao (I ops) cap] w (SmallO ops w):=by
 by_cases hn:16384<I ops
 . have z:(16384:Int)<(I ops:Int):=zo
   go_in;go_wp2;go_ret;exact⟨rfl,false,rfl,λh=>by cases h⟩
 have z:¬ (16384:Int)<(I ops:Int):=zo
 go_in;go_wp2;go_loopw [3,4] (λs3 s4 wr=>∃ i m:Nat,s4=ι i/\s3=ι m/\i<=I ops/\m=I ops+((ops.take i).map (·.s.size)).sum/\m<=16384/\wr=w) (λ_ s4 _=>I ops-(ϑ s4).toNat)
 case atStart=>exact⟨0,I ops,rfl,rfl,rC,zs,zo,rfl⟩
 case round=>
  obtain⟨i,m,rfl,rfl,hi,hm,Jm,rfl⟩:=hrel;have HM:=zh hm;clear hm;by_cases Hf:i<I ops
  . have zi:=zt i (I ops)
    obtain⟨o,ho⟩:=zG ops i Hf;obtain⟨b,off,rfl,hb,hs,_,_,_,_,_,c4⟩:=h i o ho;have au:=mF i;have hws:=lM (n:=(m:Int)+(o.s.size:Int));have HS:=zh (zja ho);have c4':wr.v b (off+i*5+4) (γ o.s):=by rw[Nat.add_assoc];exact c4
    by_cases hg:16384<m+o.s.size
    . have zg:(16384:Int)<(m:Int)+(o.s.size:Int):=zo
      go_wp2;go_ret;exact⟨rfl,false,rfl,λh=>by cases h⟩
    have zg:¬ (16384:Int)<(m:Int)+(o.s.size:Int):=zo
    go_wp2;go_roundw
    case rel=>exact⟨i+1,m+o.s.size,by go_num,by go_num,zo,by rw[HS.o,HM.o];omega,zo,trivial⟩
    grind [RowKit.intOf]
  have zi:=zn i (I ops)
  have P0:i=I ops:=zo
  have Hg:I ops+(ops.map (·.s.size)).sum<=16384:=by
   have:=HM.o;rw[P0,List.take_length] at this;omega
  clear P0;go_wp2;go_ret;exact⟨rfl,true,rfl,λ_=>Hg⟩
theorem upTo_any (ops:List sO) (w:ω) (ao:Option Addr) (cap:Nat) (h:zc4 w ao ops) (hl:I ops<=16384) (J:Nat->World->Prop) (h0:J 0 (κ w (Ω #[ν,ν,ν,ν,γ ⟨#[]⟩] 35)))
 (hJ:∀ i w',J i w'->w.u w') (hs:∀ i o w',ops[i]?=some o->J i w'->Γ 7 #[bH w.t,.agg o.cells] w' λe w2=>e=ρ (φ true)/\J (i+1) w2):
 Γ 6 #[τ ao (I ops) cap] w λe w'=>e=ρ (ι (-1))/\w.u w':=by
 go_in;go_wp2_with fail;go_loopw [4] (λs4 wr=>∃ i:Nat,s4=ι i/\i<=I ops/\J i wr) (λs4 _=>I ops-(ϑ s4).toNat)
 case atStart=>exact⟨0,rfl,rC,h0⟩
 case round=>
  obtain⟨i,rfl,hi,hj⟩:=hrel;by_cases Hf:i<I ops
  . have zi:=zt i (I ops)
    obtain⟨o,ho⟩:=zG ops i Hf;obtain⟨b,off,rfl,hb,_,_,c0,c1,c2,c3,c4⟩:=(h.below (hJ i _ hj)) i o ho;have:=mF i;have HC:=zh (hs i o wr ho hj);unfold bH sO.cells at HC;have:wr.i b (off+i*5+1) o.x:=by rw[Nat.add_assoc];exact c1
    have:wr.i b (off+i*5+2) o.a:=by rw[Nat.add_assoc];exact c2
    have:wr.i b (off+i*5+3) o.b:=by rw[Nat.add_assoc];exact c3
    have:wr.v b (off+i*5+4) (γ o.s):=by rw[Nat.add_assoc];exact c4
    go_wp2_with (first|(have H9:=HC.o;go_at_call 7;refine H9.mono ?_;rintro e w2 ⟨rfl,Pf⟩));go_roundw
    case rel=>exact⟨i+1,by go_num,zo,Pf⟩
    grind [RowKit.intOf]
  have zi:=zn i (I ops)
  have HB:=zh (hJ i _ hj);go_wp2;go_ret;exact⟨rfl,HB.o⟩
theorem elemOp:eO prog 22 27 5 48:=eO.of (z:=.agg #[ι 0,ι 0,ι 0,ι 0,γ ⟨#[]⟩]) underlying22 zK rfl zd
def yO (qd:List Int) (o:sO):Bool:=decide (o.kind<5)||qd.any (λk=>o.kind==k)
theorem zdq (p:sO->Bool):∀ (l:List sO),I (l.filter p)+((l.filter p).map (·.s.size)).sum<=I l+(l.map (·.s.size)).sum
 | []=>bR
 | o::l=>by
  have:=zdq p l
  grind
structure LSt (w:ω) (ops:List sO) (qd:List Int) (i:Nat) (l:List sO) (v:Value) (wr:ω):Prop where
 eq:l=(ops.take i).filter (yO qd)
 row:wr.r 27 5 v (I l) (mM l)
 new:∀ g,β v=some g->w.t<=g
 bel:w.u wr
def UpH (w:ω) (qd:List Int):Prop:=∀ (l:List sO) (w':ω) (ao:Option Addr) (cap:Nat),w.u w'->zc4 w' ao l->(∀ o∈l,yO qd o=true/\o.Ok)->I l+(l.map (·.s.size)).sum<=16384->
 Γ 6 #[τ ao (I l) cap] w' λe w2=>e=ρ (ι (-1))/\w'.u w2
theorem plays_any (ops:List sO) (qd:List Int) (w:ω) (ao:Option Addr) (cap:Nat) (gk ck:Nat) (h:zc4 w ao ops) (hl:I ops<=140737488351232) (hk:dA w (σ gk (I qd) ck) qd) (XR:I qd<=100) (hU:UpH w qd):
 Γ 4 #[τ ao (I ops) cap,σ gk (I qd) ck] w λe w'=>e=ρ (φ true)/\w.u w':=by
 have Xt:=zh (small_any ops w ao cap h hl);have HH:=zh h;have HU:=zh hU;have lk:=(World.ownsRow.lt hk gk rfl).2;have Of:∀ (j:Nat) (k:Int),qd[j]?=some k->w.i gk j k:=λj k hj=>aJ hk j _ (by grind [dP]);have Ft:=zh Of;clear h hU hk Of hl;go_in;go_upto_region 2 with (go_at_call 5;refine Xt.o.mono ?_;rintro e w' ⟨rfl,r,rfl,hr⟩)
 cases r with
 | false=>
  clear hr;go_wp2;go_ret;simp_all[zBr]
 | true=>
  have HR:=zh (hr rfl);have Zn:I ops<=16384:=by have:=HR.o;omega
  clear hr;go_wp2_with fail;go_loopw [6,7] (λs6 s7 wr=>∃ (i:Nat) (l:List sO) (Xe:Option Addr) (Q6:Nat),s7=ι i/\s6=τ Xe (I l) Q6/\i<=I ops/\LSt w' ops qd i l (τ Xe (I l) Q6) wr) (λ_ s7 _=>I ops-(ϑ s7).toNat)
  case atStart=>exact⟨0,[],none,0,rfl,rfl,rC,zs,World.ownsRow_nil _ _ _ _,λg e=>(by cases e),iM⟩
  case round=>
   obtain⟨i,l,Xe,Q6,rfl,rfl,hi,hL⟩:=hrel;have HL:=zh hL;clear hL;by_cases Hf:i<I ops
   . have zi:=zt i (I ops)
     obtain⟨o,ho⟩:=zG ops i Hf;obtain⟨b,off,rfl,hb,_,_,c0,c1,c2,c3,c4⟩:=(HH.o.below HL.o.bel) i o ho;have:=mF i;have c1':wr.i b (off+i*5+1) o.x:=by rw[Nat.add_assoc];exact c1
     have c2':wr.i b (off+i*5+2) o.a:=by rw[Nat.add_assoc];exact c2
     have c3':wr.i b (off+i*5+3) o.b:=by rw[Nat.add_assoc];exact c3
     have c4':wr.v b (off+i*5+4) (γ o.s):=by rw[Nat.add_assoc];exact c4
     have Cf:(ops.take (i+1)).filter (yO qd)=l++(if yO qd o=true then[o] else[]):=by
      rw[List.take_add_one,ho,List.filter_append,<-HL.o.eq];simp only[Option.toList_some,List.filter_cons,List.filter_nil]
     have Jt:=zh Cf;have lgk:=zLd lk HL.o.bel.size;have HKR:zH (∀ (j:Nat) (k:Int),qd[j]?=some k->wr.i gk j k):=zh (λj k hj=>(aG HL.o.bel (gk.p j) lk).trans (Ft.o j k hj));obtain⟨w3,yj⟩:=zE (wr);rw[<-yj] at c0 c1' c2' c3' c4' HL HKR lgk hb ⊢;clear Cf ho c1 c2 c3 c4 yj;go_wp2_with fail
     go_loopw [9,10] (λs9 XJ wr2=>∃ j:Nat,XJ=ι j/\s9=φ (decide (o.kind<5)||(qd.take j).any (λk=>o.kind==k))/\j<=I qd/\wr2=w3) (λ_ XJ _=>I qd-(ϑ XJ).toNat)
     case atStart=>exact⟨0,rfl,zs,rC,rfl⟩
     case round=>
      obtain⟨j,rfl,rfl,hj,rfl⟩:=hrel;by_cases xi:j<I qd
      . have zj:=zt j (I qd)
        have:=mF j;obtain⟨k,Oh⟩:=zG qd j xi;have ck:=HKR.o j k Oh;have Xw:(decide (o.kind<5)||(qd.take (j+1)).any (λk=>o.kind==k))=((decide (o.kind<5)||(qd.take j).any (λk=>o.kind==k))||(o.kind==k)):=by
         rw[List.take_add_one,Oh,List.any_append];simp[Bool.or_assoc]
        have Qo:=zh Xw;clear Xw Oh;generalize (decide (o.kind<5)||(qd.take j).any (λk=>o.kind==k))=r at*;cases r with
        | true=>
         exact zzCE
        | false=>
         exact zzCE
      have zj:=zn j (I qd)
      have EH:(decide (o.kind<5)||(qd.take j).any (λk=>o.kind==k))=yO qd o:=by
       rw[show j=qd.length by omega,List.take_length];rfl
      rw[EH];clear EH;cases K1:yO qd o with
      | false=>
       have HE:zH ((ops.take (i+1)).filter (yO qd)=l):=zh (by rw[Jt.o,K1];simp);clear K1;go_wp2_with fail;go_roundw
       case rel=>exact⟨i+1,l,_,_,by go_num,rfl,zo,HE.o.symm,HL.o.row,HL.o.new,HL.o.bel⟩
       case measure=>exact zY
      | true=>
       have HE:zH ((ops.take (i+1)).filter (yO qd)=l++[o]):=zh (by rw[Jt.o,K1];simp);have V8:I l+1<=1000000000:=by
        have h1:=HL.o.eq;have h2:=List.length_filter_le (yO qd) (ops.take i);rw[<-h1,List.length_take] at h2;omega
       have Hw:=zh HL.o.row;clear K1;go_wp2_with (at_builtin;refine dM rfl elemOp rfl (by exact (Hw.o.alloc _)) [ι o.kind,ι o.x,ι o.a,ι o.b,γ o.s] V8 ?_;intro v4 w4 Hr ql Qu;obtain⟨a4,c4,Ij⟩:=bJ Hr;subst Ij;have H4:=Λ Hr ql Qu;clear Hr ql Qu);go_roundw
       case rel=>
        refine⟨i+1,l++[o],a4,c4,by go_num,zs,zo,HE.o.symm,?_,λg e=> ?_,?_⟩
        . have h1:=H4.o.1
          have e:mM (l++[o])=mM l++[ι o.kind,ι o.x,ι o.a,ι o.b,γ o.s]:=by simp[mM,sO.cells]
          rw[e];simpa using h1
        . have:=HL.o.bel.size
          have e':β (Value.slice a4 (I l+1) c4)=some g:=by simpa using e
          have h3:β (Value.slice a4 (I l+1) c4)=β (Value.slice Xe (I l) Q6)\/β (Value.slice a4 (I l+1) c4)=some (wr.heap.size+1):=by
           rcases H4.o.2.2 with h2|h2
           . exact .inl h2
           simp_all
          rcases h3 with h2|h2
          . exact HL.o.new g (h2.symm.trans e')
          rw[h2] at e'
          cases e';omega
        . exact (HL.o.bel.alloc HL.o.bel.size _).grown H4.o.2.1 (by simp;have:=HL.o.bel.size;omega) HL.o.new
       case measure=>exact zY
   have zi:=zn i (I ops)
   have Cl:l=ops.filter (yO qd):=by rw[HL.o.eq,show i=ops.length by omega,List.take_length]
   have YH:∀ o∈l,o.s.size<=140737488351232/\o.Ok:=λo ho=>by
    rw[Cl] at ho;obtain⟨n,hn⟩:=List.mem_iff_getElem?.1 (List.mem_filter.1 ho).1;obtain⟨_,_,_,_,h3,h4,_⟩:=HH.o n o hn
    grind
   obtain⟨QP,cap3,Rs,EU⟩:=ziP HL.o.row YH;cases Rs;have IJ:=zh (HU.o l wr Xe Q6 HL.o.bel EU (λo ho=>⟨zg,(YH o ho).2⟩) (by rw[Cl];exact zT (zdq _ ops) HR.o));clear Cl YH EU;go_wp2_with (first|(go_at_call 6;refine IJ.o.mono ?_;rintro e w4 ⟨rfl,qu⟩;have yg:=zh qu;clear qu));go_ret;exact⟨rfl,HL.o.bel.trans (yg.o.mono HL.o.bel.size)⟩
