/- Part of a proof. No condition. -/
import Derived.Test.YtghpmhllpaheiaaGreatDoorF34
import Derived.Test.YtghpmhllpaheiaaGreatDoorF36
set_option linter.unusedVariables false
set_option linter.unusedSimpArgs false
set_option maxRecDepth 100000
set_option maxHeartbeats 16000000
namespace Go.Proofs.YtghpmhllpaheiaaGreatDoor
open Go.RowKit Go.Lib
variable {w:World} {v nl:Value} {A k size n:Nat} {d:Nd} {t e:TypeId} {N:List Nd} {xs:List Value} {fa:Mk->jK×Mk}
theorem iT {l:List (Int×Int)} (h:w.ownsRow 0 304 2 v l.length (eQ l)):∃ ao cap,v=.slice ao l.length cap:=by
 rcases bD h with⟨e,e'⟩|⟨g,cap,e,_⟩
 . exact⟨none,0,by rw[e,e']⟩
 exact⟨_,_,e⟩
structure kJ (D:MD) (M:Mk):Prop where
 last:D.last=M.last
 fL:D.fL=M.fL
 on:D.on=M.on
 len:D.rL.length=M.cL.length
 cL:∀ k,lF ((D.rL.map (·.2)).getD k []) (M.cL.getD k [])
 bd:∀ p∈D.rL,∀ r∈p.2,0<=r.1/\r.1<=1114111/\0<=r.2/\r.2<=1114111
def qC (B mb:Nat) (N:List Nd) (nl:Value) (S:MS) (r:jK×Mk) (w:World) (e:Ending) (w':World):Prop:=
 ∃ (D':MD) (S':MS) (ao al:Option Addr) (co cl:Nat),e=.returned (.agg #[.bool r.1.emp,.slice ao r.1.fst.length co,.slice al r.1.lst.length cl])/\lG B mb N nl D' S' w'/\kJ D' r.2/\lV mb S S' w w'/\
  gJ mb S' w' (.slice ao r.1.fst.length co) r.1.fst/\gJ mb S' w' (.slice al r.1.lst.length cl) r.1.lst
def rB (N:List Nd) (nl:Value) (k:Nat) (f:Mk->jK×Mk):Prop:=∀ (B mb:Nat) (D:MD) (S:MS) (w:World) (M:Mk),lG B mb N nl D S w->kJ D M->gD M->
 Calls Tryz.prog 127 #[bJ mb,.int .i64 k] w (qC B mb N nl S (f M) w)
theorem mH:∀ (N:List Nd) (k:Nat) (d:Nd),N[k]?=some d->(fU N)[k*5]?=some (.int .i64 d.k)/\(fU N)[k*5+1]?=some d.r/\(fU N)[k*5+2]?=some (.int .i64 d.a)/\(fU N)[k*5+3]?=some (.int .i64 d.b)/\(fU N)[k*5+4]?=some (.int .i64 d.n)
 | [],k,d,h=>by simp at h
 | e::N,0,d,h=>by
  simp only[zLb,Option.some.injEq] at h;subst h;exact⟨rfl,rfl,rfl,rfl,rfl⟩
 | e::N,k+1,d,h=>by
  have ih:=mH N k d (by simpa using h);have e1:∀ j,(fU (e::N))[(k+1)*5+j]?=(fU N)[k*5+j]?:=λj=>by
   show (_++fU N)[(k+1)*5+j]?=_;rw[zGr (by simp;omega)];congr 1;simp;omega
  have e0:=e1 0;simp only[Nat.add_zero] at e0;rw[e0,e1,e1,e1,e1];exact ih
structure EntO (w:World) (A:Nat) (dk:Nat) (dr:Value) (d:Nd) (w2:World):Prop where
 r:w2.heap[A]?=some (.cells #[.bool false,.slice none 0 0,.slice none 0 0] 273 (0,0))
 n:w2.heap[A+1]?=some (.cells #[.int .i64 dk,dr,.int .i64 d.a,.int .i64 d.b,.int .i64 d.n] 301 (0,0))
 b:Below A w w2
 s:w2.heap.size=A+2
theorem uD (w:World) (d:Nd):EntO w w.heap.size d.k d.r d ((w.alloc (.cells #[.bool false,.slice none 0 0,.slice none 0 0] 273)).alloc (.cells #[.int .i64 d.k,d.r,.int .i64 d.a,.int .i64 d.b,.int .i64 d.n] 301)):=by
 have h1:(w.alloc (.cells #[.bool false,.slice none 0 0,.slice none 0 0] 273)).heap.size=w.heap.size+1:=by simp
 refine⟨?_,?_,((zBr _ w).alloc (zR _) _).alloc (by omega) _,by simp⟩
 . rw[aN,zN (by omega),aN,zP rfl]
 rw[aN,zP (by omega)]
theorem EntO.ncells {dk:Nat} {dr:Value} {w2:World} (h:EntO w A dk dr d w2):w2.cell? ⟨A+1,0,none⟩=some (.int .i64 dk)/\w2.cell? ⟨A+1,1,none⟩=some dr/\w2.cell? ⟨A+1,2,none⟩=some (.int .i64 d.a)/\w2.cell? ⟨A+1,3,none⟩=some (.int .i64 d.b)/\w2.cell? ⟨A+1,4,none⟩=some (.int .i64 d.n):=
 ⟨by rw[aB _ _ 0 _ _ _ h.n];rfl,by rw[aB _ _ 1 _ _ _ h.n];rfl,by rw[aB _ _ 2 _ _ _ h.n];rfl,by rw[aB _ _ 3 _ _ _ h.n];rfl,by rw[aB _ _ 4 _ _ _ h.n];rfl⟩
theorem iM {a b c:Value} (h:w.heap[A]?=some (.cells #[a,b,c] t (0,0))) (x y z:Value):
 let w3:=((w.setCell ⟨A,0,none⟩ x).setCell ⟨A,1,none⟩ y).setCell ⟨A,2,none⟩ z
 w3.cell? ⟨A,0,none⟩=some x/\w3.cell? ⟨A,1,none⟩=some y/\w3.cell? ⟨A,2,none⟩=some z/\(∀ g,g≠A->w3.heap[g]?=w.heap[g]?)/\Below A w w3:=by
 have h1:=aC w A 0 x _ _ _ h;have h2:=aC _ A 1 y _ _ _ h1;have h3:=aC _ A 2 z _ _ _ h2;have hk:∀ g,g≠A->(((w.setCell ⟨A,0,none⟩ x).setCell ⟨A,1,none⟩ y).setCell ⟨A,2,none⟩ z).heap[g]?=w.heap[g]?:=λg hg=>by
  rw[aG _ _ _ _ hg,aG _ _ _ _ hg,aG _ _ _ _ hg]
 exact⟨by rw[aB _ _ 0 _ _ _ h3];rfl,by rw[aB _ _ 1 _ _ _ h3];rfl,by rw[aB _ _ 2 _ _ _ h3];rfl,hk,rfl,rfl,rfl,by simp[World.setCell],λg hg=>hk g (by omega)⟩
theorem gB {a b c:Value} (h:w.heap[A]?=some (.cells #[a,b,c] t (0,0))) (x y:Value):
 w.cell? ⟨A,0,none⟩=some a/\w.frozen? ⟨A,0,none⟩=false/\(w.setCell ⟨A,0,none⟩ x).cell? ⟨A,1,none⟩=some b/\(w.setCell ⟨A,0,none⟩ x).frozen? ⟨A,1,none⟩=false/\
 ((w.setCell ⟨A,0,none⟩ x).setCell ⟨A,1,none⟩ y).cell? ⟨A,2,none⟩=some c/\((w.setCell ⟨A,0,none⟩ x).setCell ⟨A,1,none⟩ y).frozen? ⟨A,2,none⟩=false:=by
 have h1:=aC w A 0 x _ _ _ h;have h2:=aC _ A 1 y _ _ _ h1;exact⟨by rw[aB _ _ 0 _ _ _ h];rfl,aM _ _ _ _ _ h,by rw[aB _ _ 1 _ _ _ h1];rfl,aM _ _ _ _ _ h1,by rw[aB _ _ 2 _ _ _ h2];rfl,aM _ _ _ _ _ h2⟩
theorem oO (mb:Nat) (S:MS) (w:World):gJ mb S w (.slice none 0 0) []:=⟨cW.nil w,λg hg=>by cases hg⟩
theorem rS (hd:N[k]?=some d) (B mb:Nat) (D:MD) (S:MS) (w:World) (M:Mk) (h:lG B mb N nl D S w) (hr:kJ D M) (qq:D.on=true):
 Calls Tryz.prog 127 #[bJ mb,.int .i64 k] w (qC B mb N nl S (gW,M) w):=by
 have pm:=zh qq;obtain⟨c0,c1,c2,c3,c4⟩:=h.cells;rw[qq] at c4;obtain⟨Xy,cr,xl⟩:=iT (h.nrg d (zM hd)).1;obtain⟨gN,Yg,Yk,Dc,VS⟩:∃ g c,nl=.slice (some ⟨g,0,none⟩) N.length c/\k<N.length/\g<w.heap.size:=by
  have hk:=(List.getElem?_eq_some_iff.1 hd).1
  rcases bD h.nrow with⟨_,h0⟩|⟨g,cap,e,_,hg⟩
  . omega
  exact⟨g,cap,e,hk,hg⟩
 have Qm:=h.nrow;rw[Yk] at Qm;obtain⟨d0,d1,d2,d3,d4⟩:=mH N k d hd;have n0:=aE Qm _ _ d0;have n1:=aE Qm _ _ d1;have n2:=aE Qm _ _ d2;have n3:=aE Qm _ _ d3;have n4:=aE Qm _ _ d4;rw[xl] at n1;rw[Yk] at c0;have zk:(k:Int)<(N.length:Int):=by omega
 have qr:=zh (uD w d);rw[xl] at qr;have H:=zh (zAi h (zAi hr hd));have ya:w.heap.size<w.heap.size+1+1:=by omega
 have Q8:zH (mb<w.heap.size):=zh h.lt;clear h hr Qm xl Yk d0 d1 d2 d3 d4 qq hd;unfold bJ;obtain⟨A,hA⟩:∃ A,w.heap.size=A:=⟨_,rfl⟩;rw[hA] at qr Q8 VS ya;have Yl:=Q8.o;go_enter Tryz.func127,Tryz.ntmps127;go_upto_region 2 with (fail)
 generalize QO:((w.alloc (.cells #[.bool false,.slice none 0 0,.slice none 0 0] 273)).alloc (.cells #[.int .i64 d.k,.slice Xy d.rl.length cr,.int .i64 d.a,.int .i64 d.b,.int .i64 d.n] 301))=w2 at qr ⊢;clear QO n0 n1 n2 n3 n4 c0 c1 c2 c3 c4 zk VS;have HW:zH (w.heap.size=A):=zh hA;clear hA Yl ya;have QR:zH (lG B mb N nl D S w2):=zh (H.o.1.below (by have:=qr.o.b;rw[<-HW.o] at this;exact this));obtain⟨_,c1,c2,c3,c4⟩:=QR.o.cells;rw[pm.o] at c4;obtain⟨m0,m1,m2,m3,m4⟩:=qr.o.ncells
 have Yl:mb<w2.heap.size:=QR.o.lt;have X0:=zh qr.o.r;obtain⟨x0,y0,x1,y1,x2,y2⟩:=gB X0.o (.bool true) (.slice none 0 0);go_wp2_with (fail);clear x0 y0 x1 y1 x2 y2;obtain⟨z0,z1,z2,zk,zb⟩:=iM X0.o (.bool true) (.slice none 0 0) (.slice none 0 0);refine bodyPost_ret (v:=.agg #[.bool true,.slice none 0 0,.slice none 0 0]) (by simp[results,Tryz.results127,go_sem,z0,z1,z2]) rfl ?_;have hb:=(qr.o.b.trans zb).mono (Nat.le_of_eq HW.o)
 exact⟨D,S,none,none,0,0,rfl,H.o.1.below hb,H.o.2.1,lV.of_below hb,oO _ _ _,oO _ _ _⟩
theorem make_nil (hd:N[k]?=some d) (hk:d.k=0) (B mb:Nat) (D:MD) (S:MS) (w:World) (M:Mk) (h:lG B mb N nl D S w) (hr:kJ D M) (qq:D.on=false):
 Calls Tryz.prog 127 #[bJ mb,.int .i64 k] w (qC B mb N nl S (gW,M) w):=by
 have pm:=zh qq;obtain⟨c0,c1,c2,c3,c4⟩:=h.cells;rw[qq] at c4;obtain⟨Xy,cr,xl⟩:=iT (h.nrg d (zM hd)).1;obtain⟨gN,Yg,Yk,Dc,VS⟩:∃ g c,nl=.slice (some ⟨g,0,none⟩) N.length c/\k<N.length/\g<w.heap.size:=by
  have hk:=(List.getElem?_eq_some_iff.1 hd).1
  rcases bD h.nrow with⟨_,h0⟩|⟨g,cap,e,_,hg⟩
  . omega
  exact⟨g,cap,e,hk,hg⟩
 have Qm:=h.nrow;rw[Yk] at Qm;obtain⟨d0,d1,d2,d3,d4⟩:=mH N k d hd;have n0:=aE Qm _ _ d0;have n1:=aE Qm _ _ d1;have n2:=aE Qm _ _ d2;have n3:=aE Qm _ _ d3;have n4:=aE Qm _ _ d4;rw[xl] at n1;rw[Yk] at c0;rw[hk] at n0;have zk:(k:Int)<(N.length:Int):=by omega
 have qr:=zh (uD w d);rw[xl,hk] at qr;have H:=zh (zAi h (zAi hr hd));have ya:w.heap.size<w.heap.size+1+1:=by omega
 have Q8:zH (mb<w.heap.size):=zh h.lt;clear h hr Qm xl Yk d0 d1 d2 d3 d4 qq hd hk;unfold bJ;obtain⟨A,hA⟩:∃ A,w.heap.size=A:=⟨_,rfl⟩;rw[hA] at qr Q8 VS ya;have Yl:=Q8.o;go_enter Tryz.func127,Tryz.ntmps127;go_upto_region 2 with (fail)
 generalize QO:((w.alloc (.cells #[.bool false,.slice none 0 0,.slice none 0 0] 273)).alloc (.cells #[.int .i64 ((0:Nat):Int),.slice Xy d.rl.length cr,.int .i64 d.a,.int .i64 d.b,.int .i64 d.n] 301))=w2 at qr ⊢;clear QO n0 n1 n2 n3 n4 c0 c1 c2 c3 c4 zk VS;have HW:zH (w.heap.size=A):=zh hA;clear hA Yl ya;have QR:zH (lG B mb N nl D S w2):=zh (H.o.1.below (by have:=qr.o.b;rw[<-HW.o] at this;exact this));obtain⟨_,c1,c2,c3,c4⟩:=QR.o.cells;rw[pm.o] at c4;obtain⟨m0,m1,m2,m3,m4⟩:=qr.o.ncells
 have Yl:mb<w2.heap.size:=QR.o.lt;have X0:=zh qr.o.r;obtain⟨x0,y0,x1,y1,x2,y2⟩:=gB X0.o (.bool true) (.slice none 0 0);go_wp2_with (fail);clear x0 y0 x1 y1 x2 y2;obtain⟨z0,z1,z2,zk,zb⟩:=iM X0.o (.bool true) (.slice none 0 0) (.slice none 0 0);refine bodyPost_ret (v:=.agg #[.bool true,.slice none 0 0,.slice none 0 0]) (by simp[results,Tryz.results127,go_sem,z0,z1,z2]) rfl ?_;have hb:=(qr.o.b.trans zb).mono (Nat.le_of_eq HW.o)
 exact⟨D,S,none,none,0,0,rfl,H.o.1.below hb,H.o.2.1,lV.of_below hb,oO _ _ _,oO _ _ _⟩
theorem bM (h:w.ownsRow 0 e size v n xs):∃ ao cap,v=.slice ao n cap:=by
 rcases bD h with⟨e,e'⟩|⟨g,cap,e,_⟩
 . exact⟨none,0,by rw[e,e']⟩
 exact⟨_,_,e⟩
theorem dK {g:Nat} (h:w.ownsRow 0 e size v n xs) (hg:v.ownBlock=some g):∃ cs,w.heap[g]?=some (.cells cs e (0,0)):=by
 obtain⟨_,h2|⟨g',Y7,KO,hv,_,hh,_⟩⟩:=h
 . rw[h2.1] at hg;cases hg
 rw[hv] at hg;cases hg;exact⟨KO,hh⟩
theorem bW {w':World} {cs:Array Value} (h:w.ownsRow 0 e size v n xs) (hA:w.heap[A]?=some (.cells cs t (0,0))) (ht:e≠t) (hk:∀ g,g≠A->w'.heap[g]?=w.heap[g]?):w'.ownsRow 0 e size v n xs:=
 aU h λg hg=>hk g λe2=>by
  subst e2;obtain⟨c2,h2⟩:=dK h hg;rw[h2] at hA;injection hA with hA
  injection hA with _ hA
  exact ht hA
section
variable {B mb A:Nat} {N:List Nd} {nl:Value} {D:MD} {S T:MS} {w w' w2:World} {cs:Array Value} {v:Value} {l:List Nat} {r:Rng}
theorem gJ.part (h:gJ mb S w v l) (hA:w.heap[A]?=some (.cells cs 273 (0,0))) (hk:∀ g,g≠A->w'.heap[g]?=w.heap[g]?):gJ mb S w' v l:=⟨bW h.1 hA (by decide) hk,h.2⟩
theorem sM.part (h:sM mb S w v r) (hA:w.heap[A]?=some (.cells cs 273 (0,0))) (hk:∀ g,g≠A->w'.heap[g]?=w.heap[g]?):sM mb S w' v r:=⟨bW h.1 hA (by decide) hk,h.2⟩
theorem lG.part (h:lG B mb N nl D S w) (hA:w.heap[A]?=some (.cells cs 273 (0,0))) (hk:∀ g,g≠A->w'.heap[g]?=w.heap[g]?):lG B mb N nl D S w':=by
 have hm:mb≠A:=λe=>by
  subst e;have:=h.blk;rw[hA] at this;injection this with this
  injection this with _ this
  exact absurd this (by decide)
 exact⟨(hk mb hm).trans h.blk,bW h.nrow hA (by decide) hk,h.nfree,λd hd=>(h.nrg d hd).part hA hk,bW h.rR hA (by decide) hk,λp hp=>(h.rr p hp).part hA hk,bW h.lR hA (by decide) hk,bW h.fR hA (by decide) hk,λi v hv=>(h.fli i v hv).part hA hk,h.a1,h.a2,h.a3,h.low⟩
theorem lG.notA (h:lG B mb N nl D S w) (hA:w.heap[A]?=some (.cells cs 273 (0,0))):¬ xS mb S A:=λhm=>by
 have key:∀ t cs2,w.heap[A]?=some (.cells cs2 t (0,0))->t≠273->False:=λt cs2 h1 h2=>by
  rw[hA] at h1;injection h1 with h1
  injection h1 with _ h1
  exact h2 h1.symm
 rcases hm with rfl|e|e|e
 . exact key _ _ h.blk (by decide)
 . obtain⟨c2,h1⟩:=dK h.rR e;exact key _ _ h1 (by decide)
 . obtain⟨c2,h1⟩:=dK h.lR e;exact key _ _ h1 (by decide)
 obtain⟨c2,h1⟩:=dK h.fR e;exact key _ _ h1 (by decide)
theorem lV.later (h:lV mb S T w w2) (hb:Below w.heap.size w2 w'):lV mb S T w w':=
 ⟨hb.os.trans h.os,hb.tape.trans h.tape,hb.output.trans h.output,zT h.size hb.size,λb Q1 hm=>(hb.block b Q1).trans (h.keep b Q1 hm),h.new⟩
theorem zb7 (h:lG B mb N nl D S w) {ob:Obj} {u:Value} (hg:(w.alloc ob).grownBy w2 u.ownBlock) (hu:u.ownBlock≠some mb):w2.heap[mb]?=some (.cells #[nl,S.vR,S.vL,S.vF,.bool D.on] 271 (0,0))/\mb<w2.heap.size:=by
 have:=(dN h.lt hg hu).trans h.blk;exact⟨this,aA this⟩
theorem undrew {w2:World} {b:Option Nat} (h:w.drew.grownBy w2 b):w.grownBy w2 b:=⟨h.os,h.tape,h.output,h.size,h.block⟩
theorem zfR {M:Mk} (hr:kJ D M) (Hv:gD M) {rv:Value} {rl c:Rng} (hc:lF rl c) (hb:∀ r∈rl,0<=r.1/\r.1<=1114111/\0<=r.2/\r.2<=1114111):
 kJ {rL:=D.rL++[(rv,rl)],last:=D.last++[-1],fL:=D.fL++[[]],on:=D.on} ⟨M.cL++[c],M.last++[-1],M.fL++[[]],M.on⟩:=by
 refine⟨by rw[hr.last],by rw[hr.fL],hr.on,by simp[hr.len],λk=> ?_,λp hp=> ?_⟩
 . have hl:(D.rL.map (·.2)).length=M.cL.length:=by rw[List.length_map];exact hr.len
   show lF (((D.rL++[(rv,rl)]).map (·.2)).getD k []) ((M.cL++[c]).getD k []);rw[List.map_append]
   rcases Nat.lt_trichotomy k M.cL.length with h|h|h
   . have:=hr.cL k
     rw[zLf,zLf] at this ⊢;rw[zGl (by omega),zGl h];exact this
   . subst h
     rw[zLf,zLf,zGr (by omega),zGr (by omega),hl];simpa using hc
   rw[zLf,zLf,zGn (by rw[zLn,hl];simp;omega),zGn (by simp;omega)]
   exact lF.refl _
 rcases List.mem_append.1 hp with h|h
 . exact hr.bd p h
 rw[zMs] at h;subst h;exact hb
theorem pK {o:Nat} {c:Array Value} {o1 o2:Obj} (h:w.heap[A]?=some (.cells c t (0,0))):((w.alloc o1).alloc o2).frozen? ⟨A,o,none⟩=false:=by
 have hb:Below w.heap.size w ((w.alloc o1).alloc o2):=((zBr _ w).alloc (zR _) _).alloc (by simp) _;exact aM _ _ _ _ _ ((hb.block A (aA h)).trans h)
theorem li_new (w:World) (x:Nat):cW (w.alloc (.cells #[.int .i64 x] 3)) (.slice (some ⟨w.heap.size,0,none⟩) 1 1) (eX [x]):=
 ⟨rfl,.inr ⟨w.heap.size,1,_,rfl,zZ _,bR _ _ _ rfl,zR _,by decide,rfl,rfl⟩⟩
end
theorem elemRngs:eY Tryz.prog 260 299 1 24:=eY.of (z:=.slice none 0 0) Tryz.underlying260 (by kernel_rfl) rfl (by decide)
theorem zfE {c:Rng} (hd:N[k]?=some d) (hk:d.k=1) (hc:lF d.rl c) (Vd:∀ r∈d.rl,0<=r.1/\r.1<=1114111/\0<=r.2/\r.2<=1114111) (B mb:Nat) (D:MD) (S:MS) (w:World) (M:Mk) (h:lG B mb N nl D S w) (hr:kJ D M) (Hv:gD M) (qq:D.on=false):
 Calls Tryz.prog 127 #[bJ mb,.int .i64 k] w (qC B mb N nl S (eN (.cL c) M) w):=by
 have pm:=zh qq;have HX:=zh (zAi hc (zAi Vd Hv));have Hg:D.rL.length=M.fL.length:=hr.len.trans Hv.c;have yf:=zh Hg;have GN:¬ M.on=true:=by rw[<-hr.on,qq];decide
 have EV:=zh GN;have Nn:D.rL.length<=65:=by rw[Hg];exact Hv.le
 have UJ:D.last.length<=65:=by rw[hr.last,Hv.a];exact Hv.le
 have Q3:D.fL.length<=65:=by rw[hr.fL];exact Hv.le
 obtain⟨aoR,cR,XD⟩:=bM h.rR;obtain⟨aoL,cL,J0⟩:=bM h.lR;obtain⟨aoF,cF,vq⟩:=bM h.fR;have HV:=zh (zAi XD (zAi J0 vq));clear hc Vd Hv Hg GN;obtain⟨c0,c1,c2,c3,c4⟩:=h.cells;rw[qq] at c4;obtain⟨Xy,cr,xl⟩:=iT (h.nrg d (zM hd)).1;obtain⟨gN,Yg,Yk,Dc,VS⟩:∃ g c,nl=.slice (some ⟨g,0,none⟩) N.length c/\k<N.length/\g<w.heap.size:=by
  have hk:=(List.getElem?_eq_some_iff.1 hd).1
  rcases bD h.nrow with⟨_,h0⟩|⟨g,cap,e,_,hg⟩
  . omega
  exact⟨g,cap,e,hk,hg⟩
 have Qm:=h.nrow;rw[Yk] at Qm;obtain⟨d0,d1,d2,d3,d4⟩:=mH N k d hd;have n0:=aE Qm _ _ d0;have n1:=aE Qm _ _ d1;have n2:=aE Qm _ _ d2;have n3:=aE Qm _ _ d3;have n4:=aE Qm _ _ d4;rw[xl] at n1;rw[Yk] at c0;rw[hk] at n0;have zk:(k:Int)<(N.length:Int):=by omega
 have qr:=zh (uD w d);rw[xl,hk] at qr;have H:=zh (zAi h (zAi hr hd));have Wd:=zh xl;have ya:w.heap.size<w.heap.size+1+1:=by omega
 have Q8:zH (mb<w.heap.size):=zh h.lt;clear h hr Qm xl Yk d0 d1 d2 d3 d4 qq hd hk;unfold bJ;obtain⟨A,hA⟩:∃ A,w.heap.size=A:=⟨_,rfl⟩;rw[hA] at qr Q8 VS ya;have Yl:=Q8.o;go_enter Tryz.func127,Tryz.ntmps127;go_upto_region 2 with (fail)
 generalize QO:((w.alloc (.cells #[.bool false,.slice none 0 0,.slice none 0 0] 273)).alloc (.cells #[.int .i64 ((1:Nat):Int),.slice Xy d.rl.length cr,.int .i64 d.a,.int .i64 d.b,.int .i64 d.n] 301))=w2 at qr ⊢;clear QO n0 n1 n2 n3 n4 c0 c1 c2 c3 c4 zk VS;have HW:zH (w.heap.size=A):=zh hA;clear hA Yl ya;have QR:zH (lG B mb N nl D S w2):=zh (H.o.1.below (by have:=qr.o.b;rw[<-HW.o] at this;exact this));obtain⟨_,c1,c2,c3,c4⟩:=QR.o.cells;rw[pm.o] at c4;obtain⟨m0,m1,m2,m3,m4⟩:=qr.o.ncells
 have lA:A<w2.heap.size:=by rw[qr.o.s];omega
 have lA1:A+1<w2.heap.size:=by rw[qr.o.s];omega
 have Yl:mb<w2.heap.size:=QR.o.lt;clear XD J0 vq;rw[HV.o.1] at c1;by_cases kh:64<D.rL.length
 . have z64:(64:Int)<(D.rL.length:Int):=by omega
   have XJ:zH (eN (.cL c) M=(gW,{M with on:=true})):=zh (by rw[eN,zN EV.o,zP (by rw[<-yf.o];exact kh)]);have fr4:=aM w2 mb 4 _ _ QR.o.blk;go_upto_region 8 with (fail)
   have X0:zH ((w2.setCell ⟨mb,4,none⟩ (.bool true)).heap[A]?=some (.cells #[.bool false,.slice none 0 0,.slice none 0 0] 273 (0,0))):=zh (by rw[aG _ _ _ _ (show A≠mb by have:=Q8.o;omega)];exact qr.o.r);have tQ:=zh (QR.o.setOn true);have JI:zH (lV mb S S w (w2.setCell ⟨mb,4,none⟩ (.bool true))):=zh ((lV.of_below (qr.o.b.mono (Nat.le_of_eq HW.o))).trans (lV.set mb 4 _ (.inl rfl)));have lA:A<(w2.setCell ⟨mb,4,none⟩ (.bool true)).heap.size:=aA X0.o;clear fr4 c1 c2 c3 c4 m0 m1 m2 m3 m4 lA1 Yl
   generalize w2.setCell ⟨mb,4,none⟩ (.bool true)=w3 at X0 tQ JI lA ⊢;obtain⟨x0,y0,x1,y1,x2,y2⟩:=gB X0.o (.bool true) (.slice none 0 0);go_wp2_with (fail);clear x0 y0 x1 y1 x2 y2;obtain⟨z0,z1,z2,zk,zb⟩:=iM X0.o (.bool true) (.slice none 0 0) (.slice none 0 0);refine bodyPost_ret (v:=.agg #[.bool true,.slice none 0 0,.slice none 0 0]) (by simp[results,Tryz.results127,go_sem,z0,z1,z2]) rfl ?_;rw[XJ.o];have hb:=zb.mono (Nat.le_of_eq HW.o)
   exact⟨{D with on:=true},S,none,none,0,0,rfl,tQ.o.part X0.o zk,⟨H.o.2.1.last,H.o.2.1.fL,rfl,H.o.2.1.len,H.o.2.1.cL,H.o.2.1.bd⟩,JI.o.later hb,oO _ _ _,oO _ _ _⟩
 have z64:¬ (64:Int)<(D.rL.length:Int):=by omega
 have XJ:zH (eN (.cL c) M=(⟨false,[M.fL.length],[M.fL.length]⟩,⟨M.cL++[c],M.last++[-1],M.fL++[[]],M.on⟩)):=zh (by rw[eN,zN EV.o,zN (by rw[<-yf.o];exact kh)]);go_upto_region 10 with (fail)
 have Cl:∀ w1,(w2.alloc (.cells #[.slice Xy d.rl.length cr] 299)).grownBy w1 S.vR.ownBlock->(w1.cell? ⟨mb,1,none⟩=some (.slice aoR D.rL.length cR)/\w1.cell? ⟨A+1,1,none⟩=some (.slice Xy d.rl.length cr))/\w1.frozen? ⟨mb,1,none⟩=false/\mb<w1.heap.size:=by
  intro w1 hg;have k1:=(zb7 QR.o hg QR.o.a1.1).1;have k2:=(dN lA1 hg (λe=>by
   have h2:=dP H.o.1.rR _ e;have:=HW.o;omega)).trans qr.o.n
  exact⟨⟨by rw[aB w1 mb 1 _ _ _ k1,<-HV.o.1];rfl,by rw[aB _ _ 1 _ _ _ k2];rfl⟩,aM w1 mb 1 _ _ k1,aA k1⟩
 have QC:=zh Cl;have JN:=zh (Cl _ (eK _ _));have Ck:w2.cell? ⟨mb,1,none⟩=some (.slice aoR D.rL.length cR)/\w2.cell? ⟨A+1,1,none⟩=some (.slice Xy d.rl.length cr):=⟨c1,m1⟩;have Bv:zH (w2.ownsRow 0 299 1 (.slice aoR D.rL.length cR) D.rL.length (D.rL.map (·.1))):=zh (by rw[<-HV.o.1];exact QR.o.rR);clear Cl;refine wp_region_noPanic ?_
 refine cK (λw'=>w'.cell? ⟨mb,1,none⟩=some (.slice aoR D.rL.length cR)/\w'.cell? ⟨A+1,1,none⟩=some (.slice Xy d.rl.length cr)) 13 (by kernel_rfl) Ck (λHe=> ?_);refine aH 0 He ?_;refine aH 1 He ?_;refine aH 2 He ?_;refine aH 3 He ?_;refine aH 4 He ?_;refine aH 5 He ?_;refine aH 6 He ?_;refine aH 7 He ?_;refine dA 8 (λK hK=> ?_);go_simp;refine hK.out _ _ (λ_=>JN.o.1) ?_;clear hK K He Ck;(try simp only[Act.put,lA,lB,lC]);refine dA 9 (λK hK=> ?_)
 refine jR (by rfl) _ _ (by rfl) elemRngs (.slice aoR D.rL.length cR) D.rL.length (D.rL.map (·.1)) (by rfl) (by exact (aZ Bv.o ((zBr _ _).alloc (zR _) _).drew)) ⟨w2.heap.size,0,none⟩ 1 1 [.slice Xy d.rl.length cr] (by rfl) (by rfl) (cM w2 #[.slice Xy d.rl.length cr] 299 w2.heap.size rfl) (by simp[Value.oneCell']) (by decide) (by omega) (by decide) ?_;intro v4 w4 Ho qj Qb;obtain⟨g4,Hx,rfl⟩:=bV Ho
 have KZ:(w2.alloc (.cells #[.slice Xy d.rl.length cr] 299)).grownBy w4 S.vR.ownBlock:=by rw[HV.o.1];exact undrew qj
 have ks:=QC.o w4 KZ;refine hK.out _ _ (λ_=>ks.1) ?_;clear hK K;(try simp only[Act.put,lA,lB,lC]);refine dA 10 (λK hK=> ?_);go_simp;refine hK.out _ _ (λ_=>ks.1) ?_;clear hK K;(try simp only[Act.put,lA,lB,lC]);refine dA 11 (λK hK=> ?_);go_simp;refine hK.out _ _ (λ_=>ks.1) ?_;clear hK K;(try simp only[Act.put,lA,lB,lC]);refine dA 12 (λK hK=> ?_);go_simp;refine hK.out _ _ (λ_=>ks.1) ?_;clear hK K;(try simp only[Act.put,lA,lB,lC])
 obtain⟨_,ks2,ks3⟩:=ks;refine dA 13 (λK hK=> ?_);go_simp;refine hK.out _ _ (λh=>absurd rfl h) ?_;clear hK K;(try simp only[Act.put,lA,lB,lC]);refine fK (by kernel_rfl) ?_;refine NoPanic.normal ?_;have Jq:¬ xS mb S A:=λhm=>by
  have h1:=H.o.1.mlt A hm;have:=HW.o;omega
 have qz:=QR.o.pushR (v':=.slice (some ⟨g4,0,none⟩) (D.rL.length+1) Hx) (r:=.slice Xy d.rl.length cr) (l:=d.rl) (by have h1:=QR.o.nrg d (zM H.o.2.2);rw[Wd.o] at h1;exact h1) Ho KZ (by rw[HV.o.1];exact Qb);have qy:=zh qz;have Lu:zH ((w4.setCell ⟨mb,1,none⟩ (.slice (some ⟨g4,0,none⟩) (D.rL.length+1) Hx)).heap[A]?=some (.cells #[.bool false,.slice none 0 0,.slice none 0 0] 273 (0,0))):=zh ((qz.2.keep A lA Jq).trans qr.o.r)
 have KG:=zh ((lV.of_below (qr.o.b.mono (Nat.le_of_eq HW.o))).trans qz.2);have Wr:=zh Jq;have TV:=zh lA;clear qz Ho qj Qb KZ ks2 ks3 Jq QC JN Bv c1 c2 c3 c4 m0 m1 m2 m3 m4 lA lA1 Yl z64 kh;generalize w4.setCell ⟨mb,1,none⟩ (.slice (some ⟨g4,0,none⟩) (D.rL.length+1) Hx)=w5 at qy Lu KG ⊢;obtain⟨_,_,e2,_,_⟩:=qy.o.1.cells
 replace e2:w5.cell? ⟨mb,2,none⟩=some S.vL:=e2
 rw[HV.o.2.1] at e2;have VV:zH (w5.ownsRow 0 3 1 (.slice aoL D.last.length cL) D.last.length (dE D.last)):=zh (by rw[<-HV.o.2.1];exact qy.o.1.lR)
 go_upto_region 12 with (at_builtin;refine bK _ rfl _ _ rfl mD (.slice aoL D.last.length cL) D.last.length (dE D.last) (by rfl) (by exact aZ VV.o ((zBr _ _).alloc (zR _) _)) ⟨w5.heap.size,0,none⟩ 1 1 [.int .i64 (-1)] (by rfl) (by rfl) (cM _ #[.int .i64 (-1)] _ _ rfl) (by simp[Value.oneCell']) (by decide) (by omega) (by decide) ?_;intro v6 w6 Ks AW Uv;obtain⟨g6,Y8,rfl⟩:=bV Ks;have AX:(w5.alloc (.cells #[.int .i64 (-1)] 3)).grownBy w6 S.vL.ownBlock:=(by rw[HV.o.2.1];exact AW);have q6:=zb7 qy.o.1 AX qy.o.1.a1.2.1;have c6:=aB _ _ 2 _ _ _ q6.1;have f6:=aM w6 mb 2 _ _ q6.1;have H6:=zh (zAi Ks (zAi AX Uv));clear Ks AW Uv AX q6)
 have Qy:=qy.o.1.pushL (x:= -1) (v':=.slice (some ⟨g6,0,none⟩) (D.last.length+1) Y8) H6.o.1 H6.o.2.1 (by show _=S.vL.ownBlock\/_;rw[HV.o.2.1];exact H6.o.2.2);have xx:=zh Qy.1;have Iv:zH ((w6.setCell ⟨mb,2,none⟩ (.slice (some ⟨g6,0,none⟩) (D.last.length+1) Y8)).heap[A]?=some (.cells #[.bool false,.slice none 0 0,.slice none 0 0] 273 (0,0))):=zh ((Qy.2.keep A (aA Lu.o) (λhm=>by
  rcases qy.o.2.new A hm with e|e
  . exact Wr.o e
  have:=TV.o;omega)).trans Lu.o)
 have nv:=zh (KG.o.trans Qy.2);clear Qy H6 c6 f6 e2;generalize w6.setCell ⟨mb,2,none⟩ (.slice (some ⟨g6,0,none⟩) (D.last.length+1) Y8)=w7 at xx Iv nv ⊢;obtain⟨_,_,_,e3,_⟩:=xx.o.cells
 replace e3:w7.cell? ⟨mb,3,none⟩=some S.vF:=e3
 rw[HV.o.2.2] at e3;have Wn:zH (w7.ownsRow 0 39 1 (.slice aoF D.fL.length cF) D.fL.length S.fv):=zh (by rw[<-HV.o.2.2];exact xx.o.fR)
 go_upto_region 13 with (at_builtin;refine bK _ rfl _ _ rfl zb1 (.slice aoF D.fL.length cF) D.fL.length S.fv (by rfl) (by exact aZ Wn.o ((zBr _ _).alloc (zR _) _)) ⟨w7.heap.size,0,none⟩ 1 1 [.slice none 0 0] (by rfl) (by rfl) (cM _ #[.slice none 0 0] _ _ rfl) (by simp[Value.oneCell']) (by decide) (by omega) (by decide) ?_;intro v8 w8 Xw XT AE;obtain⟨g8,cap8,rfl⟩:=bV Xw;have AY:(w7.alloc (.cells #[.slice none 0 0] 39)).grownBy w8 S.vF.ownBlock:=(by rw[HV.o.2.2];exact XT);have q8:=zb7 xx.o AY xx.o.a1.2.2;have c8:=aB _ _ 3 _ _ _ q8.1;have f8:=aM w8 mb 3 _ _ q8.1;have H8:=zh (zAi Xw (zAi AY AE));clear Xw XT AE AY q8)
 have yx:=xx.o.pushF (v':=.slice (some ⟨g8,0,none⟩) (D.fL.length+1) cap8) H8.o.1 H8.o.2.1 (by show _=S.vF.ownBlock\/_;rw[HV.o.2.2];exact H8.o.2.2);have yq:=zh yx.1;have EC:zH ((w8.setCell ⟨mb,3,none⟩ (.slice (some ⟨g8,0,none⟩) (D.fL.length+1) cap8)).heap[A]?=some (.cells #[.bool false,.slice none 0 0,.slice none 0 0] 273 (0,0))):=zh ((yx.2.keep A (aA Iv.o) (xx.o.notA Iv.o)).trans Iv.o);have aa:=zh (nv.o.trans yx.2);clear yx H8 c8 f8 e3
 generalize w8.setCell ⟨mb,3,none⟩ (.slice (some ⟨g8,0,none⟩) (D.fL.length+1) cap8)=w9 at yq EC aa ⊢;have lA9:A<w9.heap.size:=aA EC.o;have j8:=EC.o;have CW:=aC w9 A 0 (.bool false) _ _ _ j8;have QL:=aC _ A 1 (.slice (some ⟨w9.heap.size,0,none⟩) 1 1) _ _ _ CW;have PW:=aC _ A 2 (.slice (some ⟨w9.heap.size+1,0,none⟩) 1 1) _ _ _ QL;have Tz:=zh PW;obtain⟨x0,y0,x1,y1,x2,y2⟩:=gB j8 (.bool false) (.slice (some ⟨w9.heap.size,0,none⟩) 1 1)
 have q0:=pK (o:=0) (o1:=.cells #[.int .i64 D.rL.length] 3) (o2:=.cells #[.int .i64 D.rL.length] 3) j8;have q1:=pK (o:=1) (o1:=.cells #[.int .i64 D.rL.length] 3) (o2:=.cells #[.int .i64 D.rL.length] 3) CW;have q2:=pK (o:=2) (o1:=.cells #[.int .i64 D.rL.length] 3) (o2:=.cells #[.int .i64 D.rL.length] 3) QL;clear j8 CW QL PW;go_wp2_with (fail);clear x0 y0 x1 y1 x2 y2 q0 q1 q2;obtain⟨z0,z1,z2,zk,zb⟩:=iM EC.o (.bool false) (.slice (some ⟨w9.heap.size,0,none⟩) 1 1) (.slice (some ⟨w9.heap.size+1,0,none⟩) 1 1)
 generalize hwS:((w9.setCell ⟨A,0,none⟩ (.bool false)).setCell ⟨A,1,none⟩ (.slice (some ⟨w9.heap.size,0,none⟩) 1 1)).setCell ⟨A,2,none⟩ (.slice (some ⟨w9.heap.size+1,0,none⟩) 1 1)=wS at z0 z1 z2 zk zb Tz ⊢;have Qc:wS.heap.size=w9.heap.size:=by rw[<-hwS];simp[World.setCell]
 have Ef:Below wS.heap.size wS ((wS.alloc (.cells #[.int .i64 D.rL.length] 3)).alloc (.cells #[.int .i64 D.rL.length] 3)):=((zBr _ wS).alloc (zR _) _).alloc (by simp) _;have lAS:A<wS.heap.size:=aA Tz.o;have u0:=(aL Ef ⟨A,0,none⟩ lAS).trans z0;have u1:=(aL Ef ⟨A,1,none⟩ lAS).trans z1;have u2:=(aL Ef ⟨A,2,none⟩ lAS).trans z2
 refine bodyPost_ret (v:=.agg #[.bool false,.slice (some ⟨w9.heap.size,0,none⟩) 1 1,.slice (some ⟨w9.heap.size+1,0,none⟩) 1 1]) (by simp[results,Tryz.results127,go_sem,u0,u1,u2]) rfl ?_;clear u0 u1 u2 z0 z1 z2;rw[XJ.o];have hz:w.heap.size<=w9.heap.size:=aa.o.size;have hb:Below w.heap.size w9 ((wS.alloc (.cells #[.int .i64 D.rL.length] 3)).alloc (.cells #[.int .i64 D.rL.length] 3)):=(zb.mono (Nat.le_of_eq HW.o)).trans (Ef.mono (by omega));have e1:(wS.alloc (.cells #[.int .i64 D.rL.length] 3)).heap.size=wS.heap.size+1:=by simp
 have kx:=(li_new wS D.rL.length).below ((zBr _ _).alloc (zR _) (.cells #[.int .i64 D.rL.length] 3));have Yt:=li_new (wS.alloc (.cells #[.int .i64 D.rL.length] 3)) D.rL.length;rw[e1] at Yt;rw[Qc] at kx Yt;rw[yf.o] at kx Yt hb Ef ⊢;refine⟨_,_,some ⟨w9.heap.size,0,none⟩,some ⟨w9.heap.size+1,0,none⟩,1,1,rfl,(yq.o.part EC.o zk).below Ef,zfR H.o.2.1 HX.o.2.2 HX.o.1 HX.o.2.1,aa.o.later hb,⟨kx,λg hg hm=> ?_⟩,⟨Yt,λg hg hm=> ?_⟩⟩
 . cases hg
   exact Nat.lt_irrefl _ (yq.o.mlt _ hm)
 cases hg
 exact Nat.not_lt.2 (Nat.le_succ _) (yq.o.mlt _ hm)
theorem vE {mb b:Nat} {S T:MS} {u v:World} {o:Obj} (h:lV mb S T u v) (hm:¬ xS mb S b) (hb:u.heap[b]?=some o):v.heap[b]?=some o:=(h.keep b (aA hb) hm).trans hb
structure CSt (B mb:Nat) (N:List Nd) (nl:Value) (S0:MS) (w0:World) (A dk:Nat) (dr:Value) (d:Nd) (D:MD) (S:MS) (w:World):Prop where
 m:lG B mb N nl D S w
 k:lV mb S0 S w0 w
 r:w.heap[A]?=some (.cells #[.bool false,.slice none 0 0,.slice none 0 0] 273 (0,0))
 n:w.heap[A+1]?=some (.cells #[.int .i64 dk,dr,.int .i64 d.a,.int .i64 d.b,.int .i64 d.n] 301 (0,0))
 a:w0.heap.size<=A
structure PBt (mb:Nat) (S:MS) (w:World) (P:Nat) (p:jK) (ao al:Option Addr) (co cl:Nat):Prop where
 b:w.heap[P]?=some (.cells #[.bool p.emp,.slice ao p.fst.length co,.slice al p.lst.length cl] 273 (0,0))
 f:gJ mb S w (.slice ao p.fst.length co) p.fst
 l:gJ mb S w (.slice al p.lst.length cl) p.lst
section
variable {B mb A dk P Q:Nat} {N:List Nd} {nl dr:Value} {D D':MD} {S0 S T:MS} {w0 w w':World} {d:Nd} {p:jK} {ao al:Option Addr} {co cl:Nat} {cs:Array Value} {v:Value} {l:List Nat}
theorem lG.notT (h:lG B mb N nl D S w) {b:Nat} (hb:w.heap[b]?=some (.cells cs t (0,0))) (h1:t≠271) (h2:t≠299) (h3:t≠3) (h4:t≠39):¬ xS mb S b:=λhm=>by
 have key:∀ t' cs2,w.heap[b]?=some (.cells cs2 t' (0,0))->t'=t:=λt' cs2 e=>by
  rw[hb] at e;injection e with e
  injection e with _ e
  exact e.symm
 rcases hm with rfl|e|e|e
 . exact h1 (key _ _ h.blk).symm
 . obtain⟨c2,e1⟩:=dK h.rR e;exact h2 (key _ _ e1).symm
 . obtain⟨c2,e1⟩:=dK h.lR e;exact h3 (key _ _ e1).symm
 obtain⟨c2,e1⟩:=dK h.fR e;exact h4 (key _ _ e1).symm
theorem CSt.call (h:CSt B mb N nl S0 w0 A dk dr d D S w) (hm:lG B mb N nl D' T w') (hk:lV mb S T w w'):CSt B mb N nl S0 w0 A dk dr d D' T w':=
 ⟨hm,h.k.trans hk,vE hk (h.m.notA h.r) h.r,vE hk (h.m.notT h.n (by decide) (by decide) (by decide) (by decide)) h.n,h.a⟩
theorem CSt.later (h:CSt B mb N nl S0 w0 A dk dr d D S w) (hb:Below w.heap.size w w'):CSt B mb N nl S0 w0 A dk dr d D S w':=
 h.call (h.m.below hb) (lV.of_below hb)
theorem CSt.part (h:CSt B mb N nl S0 w0 A dk dr d D S w) (hP:w.heap[P]?=some (.cells cs 273 (0,0))) (hPA:P≠A) (h0:w0.heap.size<=P) (hk:∀ g,g≠P->w'.heap[g]?=w.heap[g]?) (hz:w'.os=w.os/\w'.tape=w.tape/\w'.output=w.output/\w.heap.size<=w'.heap.size):CSt B mb N nl S0 w0 A dk dr d D S w':=
 ⟨h.m.part hP hk,h.k.later ⟨hz.1,hz.2.1,hz.2.2.1,hz.2.2.2,λg hg=>hk g (by omega)⟩,(hk A (λe=>hPA e.symm)).trans h.r,(hk (A+1) (λe=>by
  have:=h.n;rw[e,hP] at this;injection this with this
  injection this with _ this
  exact absurd this (by decide))).trans h.n,h.a⟩
theorem PBt.call (h:PBt mb S w P p ao al co cl) (hm:lG B mb N nl D S w) (hk:lV mb S T w w'):PBt mb T w' P p ao al co cl:=
 ⟨vE hk (hm.notA h.b) h.b,h.f.keep hk,h.l.keep hk⟩
theorem PBt.later (h:PBt mb S w P p ao al co cl) (hb:Below w.heap.size w w'):PBt mb S w' P p ao al co cl:=
 ⟨(hb.block P (aA h.b)).trans h.b,h.f.keep (lV.of_below hb),h.l.keep (lV.of_below hb)⟩
theorem PBt.part (h:PBt mb S w P p ao al co cl) (hQ:w.heap[Q]?=some (.cells cs 273 (0,0))) (hPQ:P≠Q) (hk:∀ g,g≠Q->w'.heap[g]?=w.heap[g]?):PBt mb S w' P p ao al co cl:=
 ⟨(hk P hPQ).trans h.b,h.f.part hQ hk,h.l.part hQ hk⟩
theorem PBt.cells (h:PBt mb S w P p ao al co cl):w.cell? ⟨P,0,none⟩=some (.bool p.emp)/\w.cell? ⟨P,1,none⟩=some (.slice ao p.fst.length co)/\w.cell? ⟨P,2,none⟩=some (.slice al p.lst.length cl):=
 ⟨by rw[aB _ _ 0 _ _ _ h.b];rfl,by rw[aB _ _ 1 _ _ _ h.b];rfl,by rw[aB _ _ 2 _ _ _ h.b];rfl⟩
theorem CSt.ncells (h:CSt B mb N nl S0 w0 A dk dr d D S w):w.cell? ⟨A+1,0,none⟩=some (.int .i64 dk)/\w.cell? ⟨A+1,1,none⟩=some dr/\w.cell? ⟨A+1,2,none⟩=some (.int .i64 d.a)/\w.cell? ⟨A+1,3,none⟩=some (.int .i64 d.b)/\w.cell? ⟨A+1,4,none⟩=some (.int .i64 d.n):=
 ⟨by rw[aB _ _ 0 _ _ _ h.n];rfl,by rw[aB _ _ 1 _ _ _ h.n];rfl,by rw[aB _ _ 2 _ _ _ h.n];rfl,by rw[aB _ _ 3 _ _ _ h.n];rfl,by rw[aB _ _ 4 _ _ _ h.n];rfl⟩
theorem kQ (h:lG B mb N nl D S w) (hf:gJ mb S w (.slice ao p.fst.length co) p.fst) (hl:gJ mb S w (.slice al p.lst.length cl) p.lst):
 PBt mb S (w.alloc (.cells #[.bool p.emp,.slice ao p.fst.length co,.slice al p.lst.length cl] 273)) w.heap.size p ao al co cl:=
 ⟨bR _ _ _ rfl,hf.keep (lV.of_below ((zBr _ w).alloc (zR _) _)),hl.keep (lV.of_below ((zBr _ w).alloc (zR _) _))⟩
theorem lN (h:lG B mb N nl D S w) (hn:pJ w.heap.size v (eX l) w w'):gJ mb S w' v l:=⟨hn.1,λg hg hm=>by
 have h1:=hn.2.1 g hg;have h2:=h.mlt g hm;omega⟩
theorem CSt.fin (h:CSt B mb N nl S0 w0 A dk dr d D S w) {M:Mk} (hr:kJ D M) {p:jK} (hf:gJ mb S w (.slice ao p.fst.length co) p.fst) (hl:gJ mb S w (.slice al p.lst.length cl) p.lst) (hk:∀ g,g≠A->w'.heap[g]?=w.heap[g]?) (hz:Below A w w'):
 qC B mb N nl S0 (p,M) w0 (.returned (.agg #[.bool p.emp,.slice ao p.fst.length co,.slice al p.lst.length cl])) w':=
 ⟨D,S,ao,al,co,cl,rfl,h.m.part h.r hk,hr,h.k.later (hz.mono h.a),hf.part h.r hk,hl.part h.r hk⟩
end
theorem make_cat {fb:Mk->jK×Mk} (hd:N[k]?=some d) (hk:d.k=2) (VZ:rB N nl d.a fa) (ihb:rB N nl d.b fb)
 (Ki:∀ M,gD M->gD (fa M).2/\dW (fa M).1 (fa M).2.fL.length/\M.fL.length<=(fa M).2.fL.length)
 (Ys:∀ M,gD M->gD (fb M).2/\dW (fb M).1 (fb M).2.fL.length/\M.fL.length<=(fb M).2.fL.length)
 (B mb:Nat) (D:MD) (S:MS) (w:World) (M:Mk) (h:lG B mb N nl D S w) (hr:kJ D M) (Hv:gD M) (qq:D.on=false):
 Calls Tryz.prog 127 #[bJ mb,.int .i64 k] w (qC B mb N nl S (catP (fa M).1 (fb (fa M).2).1,(fb (fa M).2).2.links (fa M).1.lst (fb (fa M).2).1.fst) w):=by
 have pm:=zh qq;have QB:=zh Hv;obtain⟨yw,Vf,K2⟩:=Ki M Hv;obtain⟨K4,PB,Ps⟩:=Ys (fa M).2 yw;have PO:=zh VZ;have EQ:=zh ihb;obtain⟨ra,Xa⟩:=zE (fa M);rw[<-Xa] at yw Vf K2 K4 PB Ps ⊢;obtain⟨rb,jj⟩:=zE (fb ra.2);rw[<-jj] at K4 PB Ps ⊢;obtain⟨⟨e1,f1,l1⟩,M1⟩:=ra;obtain⟨⟨e2,f2,l2⟩,M2⟩:=rb;dsimp only at*;have X0:=zh Xa;have Uc:=zh jj;have vh:zH (gD M1/\dW ⟨e1,f1,l1⟩ M1.fL.length):=zh ⟨yw,Vf⟩
 have YQ:zH (gD M2/\dW ⟨e2,f2,l2⟩ M2.fL.length/\dW ⟨e1,f1,l1⟩ M2.fL.length):=zh ⟨K4,PB,Vf.mono Ps⟩;clear Hv yw Vf K2 K4 PB Ps Ki Ys VZ ihb Xa jj;obtain⟨c0,c1,c2,c3,c4⟩:=h.cells;rw[qq] at c4;obtain⟨Xy,cr,xl⟩:=iT (h.nrg d (zM hd)).1;obtain⟨gN,Yg,Yk,Dc,VS⟩:∃ g c,nl=.slice (some ⟨g,0,none⟩) N.length c/\k<N.length/\g<w.heap.size:=by
  have hk:=(List.getElem?_eq_some_iff.1 hd).1
  rcases bD h.nrow with⟨_,h0⟩|⟨g,cap,e,_,hg⟩
  . omega
  exact⟨g,cap,e,hk,hg⟩
 have Qm:=h.nrow;rw[Yk] at Qm;obtain⟨d0,d1,d2,d3,d4⟩:=mH N k d hd;have n0:=aE Qm _ _ d0;have n1:=aE Qm _ _ d1;have n2:=aE Qm _ _ d2;have n3:=aE Qm _ _ d3;have n4:=aE Qm _ _ d4;rw[xl] at n1;rw[Yk] at c0;rw[hk] at n0;have zk:(k:Int)<(N.length:Int):=by omega
 have qr:=zh (uD w d);rw[xl,hk] at qr;have H:=zh (zAi h (zAi hr hd));have ya:w.heap.size<w.heap.size+1+1:=by omega
 have Q8:zH (mb<w.heap.size):=zh h.lt;clear h hr Qm xl Yk d0 d1 d2 d3 d4 qq hd hk;unfold bJ;obtain⟨A,hA⟩:∃ A,w.heap.size=A:=⟨_,rfl⟩;rw[hA] at qr Q8 VS ya;have Yl:=Q8.o;go_enter Tryz.func127,Tryz.ntmps127;go_upto_region 2 with (fail)
 generalize QO:((w.alloc (.cells #[.bool false,.slice none 0 0,.slice none 0 0] 273)).alloc (.cells #[.int .i64 ((2:Nat):Int),.slice Xy d.rl.length cr,.int .i64 d.a,.int .i64 d.b,.int .i64 d.n] 301))=w2 at qr ⊢;clear QO n0 n1 n2 n3 n4 c0 c1 c2 c3 c4 zk VS;have HW:zH (w.heap.size=A):=zh hA;clear hA Yl ya;have QR:zH (lG B mb N nl D S w2):=zh (H.o.1.below (by have:=qr.o.b;rw[<-HW.o] at this;exact this));obtain⟨_,c1,c2,c3,c4⟩:=QR.o.cells;rw[pm.o] at c4;obtain⟨m0,m1,m2,m3,m4⟩:=qr.o.ncells
 have lA:A<w2.heap.size:=by rw[qr.o.s];omega
 have Yl:mb<w2.heap.size:=QR.o.lt;have Yp:zH (CSt B mb N nl S w A 2 (.slice Xy d.rl.length cr) d D S w2):=zh ⟨QR.o,lV.of_below (qr.o.b.mono (Nat.le_of_eq HW.o)),qr.o.r,qr.o.n,Nat.le_of_eq HW.o⟩;have QV:zH (kJ D M):=zh H.o.2.1;clear QR H Q8 HW qr;have HK:=zh (PO.o B mb D S w2 M Yp.o.m QV.o QB.o);rw[<-X0.o] at HK;unfold bJ at HK;clear lA Yl
 go_upto_region 16 with (go_at_call 127;refine HK.o.mono ?_;rintro e' v3 ⟨D3,S3,Qn,Yz,QI,yo,rfl,g1,g2,g3,g4,g5⟩;have HG:=zh (zAi g1 (zAi g2 (zAi g3 (zAi g4 g5))));clear g1 g2 g3 g4 g5)
 have Y3:=zh ((Yp.o.call HG.o.1 HG.o.2.2.1).later ((zBr _ v3).alloc (zR _) (.cells #[.bool e1,.slice Qn f1.length QI,.slice Yz l1.length yo] 273)));have qy:=zh (kQ (p:=⟨e1,f1,l1⟩) HG.o.1 HG.o.2.2.2.1 HG.o.2.2.2.2);have XH:zH (kJ D3 M1):=zh HG.o.2.1;have Ak:zH (w.heap.size<=v3.heap.size/\A<v3.heap.size):=zh ⟨zT Yp.o.k.size HG.o.2.2.1.size,zLd (aA Yp.o.r) HG.o.2.2.1.size⟩;clear HG Yp QV X0 PO c1 c2 c3 c4 m0 m1 m2 m3 m4;dsimp only at qy
 generalize v3.alloc (.cells #[.bool e1,.slice Qn f1.length QI,.slice Yz l1.length yo] 273)=w4 at Y3 qy ⊢;generalize v3.heap.size=P at qy Ak ⊢;obtain⟨m0,m1,m2,m3,m4⟩:=Y3.o.ncells;have HK:=zh (EQ.o B mb D3 S3 w4 M1 Y3.o.m XH.o vh.o.1);rw[<-Uc.o] at HK;unfold bJ at HK
 go_upto_region 17 with (go_at_call 127;refine HK.o.mono ?_;rintro e' v5 ⟨D5,S5,KN,Xk,co5,Xl,rfl,g1,g2,g3,g4,g5⟩;have HG:=zh (zAi g1 (zAi g2 (zAi g3 (zAi g4 g5))));clear g1 g2 g3 g4 g5)
 have yd:=(zBr _ v5).alloc (zR _) (.cells #[.bool e2,.slice KN f2.length co5,.slice Xk l2.length Xl] 273);have un:=zh ((Y3.o.call HG.o.1 HG.o.2.2.1).later yd);have HQ:=zh (kQ (p:=⟨e2,f2,l2⟩) HG.o.1 HG.o.2.2.2.1 HG.o.2.2.2.2);have xx:=zh ((qy.o.call Y3.o.m HG.o.2.2.1).later yd);have Xx:zH (kJ D5 M2):=zh HG.o.2.1;have IU:zH (P<v5.heap.size):=zh (zLd (aA qy.o.b) HG.o.2.2.1.size);clear HG Y3 XH Uc EQ m0 m1 m2 m3 m4 qy yd;dsimp only at HQ
 generalize v5.alloc (.cells #[.bool e2,.slice KN f2.length co5,.slice Xk l2.length Xl] 273)=w6 at un xx HQ ⊢;generalize v5.heap.size=Q at HQ IU ⊢;obtain⟨p0,p1,p2⟩:=xx.o.cells;obtain⟨q0,q1,q2⟩:=HQ.o.cells;dsimp only at p0 p1 p2 q0 q1 q2;have lP:=aA xx.o.b;have lQ:=aA HQ.o.b;have Kj:D5.fL=M2.fL:=Xx.o.fL
 have HK:=zh (zaQ B mb N nl D5 S5 w6 un.o.m (.slice Yz l1.length yo) (.slice KN f2.length co5) l1 f2 xx.o.l HQ.o.f (by rw[Kj];exact YQ.o.2.2.l) (by rw[Kj];exact YQ.o.2.1.f) (by rw[Kj];exact YQ.o.1.f) (by rw[Kj];exact YQ.o.1.le) (zT (cZ YQ.o.2.2.ln YQ.o.2.2.l) YQ.o.1.le) (zT (cZ YQ.o.2.1.fn YQ.o.2.1.f) YQ.o.1.le));unfold bJ at HK;clear Kj
 go_upto_region 18 with (go_at_call 152;refine HK.o.mono ?_;rintro e' w7 ⟨rfl,fv7,g1,g2⟩;have HG:=zh (zAi g1 g2);clear g1 g2)
 have Q7:=zh (un.o.call HG.o.1 HG.o.2);have yq:=zh (xx.o.call un.o.m HG.o.2);have jy:=zh (HQ.o.call un.o.m HG.o.2);have KJ:zH (kJ {D5 with fL:=eA l1 f2 D5.fL} (M2.links l1 f2)):=zh ⟨Xx.o.last,by show eA l1 f2 D5.fL=eA l1 f2 M2.fL;rw[Xx.o.fL],Xx.o.on,Xx.o.len,Xx.o.cL,Xx.o.bd⟩;clear HG un xx HQ Xx p0 p1 p2 q0 q1 q2 lP lQ;generalize ({D5 with fL:=eA l1 f2 D5.fL}:MD)=D7 at Q7 KJ;generalize ({S5 with fv:=fv7}:MS)=S7 at Q7 yq jy
 obtain⟨p0,p1,p2⟩:=yq.o.cells;obtain⟨q0,q1,q2⟩:=jy.o.cells;dsimp only at p0 p1 p2 q0 q1 q2;have lP:=aA yq.o.b;have lQ:=aA jy.o.b;have lA:=aA Q7.o.r;have js:zH (f1.length<=65/\l1.length<=65/\f2.length<=65/\l2.length<=65):=zh ⟨zT (cZ YQ.o.2.2.fn YQ.o.2.2.f) YQ.o.1.le,zT (cZ YQ.o.2.2.ln YQ.o.2.2.l) YQ.o.1.le,zT (cZ YQ.o.2.1.fn YQ.o.2.1.f) YQ.o.1.le,zT (cZ YQ.o.2.1.ln YQ.o.2.1.l) YQ.o.1.le⟩
 cases e1<;>cases e2
 . go_upto_region 23 with (fail)
   have Yr:=(zBr _ w7).alloc (zR _) (.cells #[.bool false,.slice Qn f1.length QI,.slice Xk l2.length Xl] 273);have xv:=zh (Q7.o.later Yr);have xh:=zh (yq.o.later Yr);have Vb:=zh (jy.o.later Yr);have HU:=zh (kQ (p:=⟨false,f1,l2⟩) Q7.o.m yq.o.f jy.o.l);have Vq:zH (P<w7.heap.size/\Q<w7.heap.size/\A<w7.heap.size/\w.heap.size<=w7.heap.size):=zh ⟨lP,lQ,lA,Q7.o.k.size⟩;clear Q7 yq jy p0 p1 p2 q0 q1 q2 lP lQ lA Yr;dsimp only at HU
   generalize w7.alloc (.cells #[.bool false,.slice Qn f1.length QI,.slice Xk l2.length Xl] 273)=w8 at xv xh Vb HU ⊢;generalize w7.heap.size=U at HU Vq ⊢;obtain⟨p0,p1,p2⟩:=xh.o.cells;obtain⟨q0,q1,q2⟩:=Vb.o.cells;obtain⟨u0,u1,u2⟩:=HU.o.cells;dsimp only at p0 p1 p2 q0 q1 q2 u0 u1 u2;have lP:=aA xh.o.b;have lQ:=aA Vb.o.b;have lA:=aA xv.o.r;obtain⟨x0,y0,x1,y1,x2,y2⟩:=gB xv.o.r (.bool false) (.slice Qn f1.length QI);go_wp2_with (fail);clear x0 y0 x1 y1 x2 y2
   obtain⟨z0,z1,z2,zk,zb⟩:=iM xv.o.r (.bool false) (.slice Qn f1.length QI) (.slice Xk l2.length Xl);refine bodyPost_ret (v:=.agg #[.bool false,.slice Qn f1.length QI,.slice Xk l2.length Xl]) (by simp[results,Tryz.results127,go_sem,z0,z1,z2]) rfl ?_;have Hm:=xv.o.fin KJ.o (p:=⟨false,f1,l2⟩) HU.o.f HU.o.l zk zb;have hp:(⟨false,f1,l2⟩:jK)=catP ⟨false,f1,l1⟩ ⟨false,f2,l2⟩:=by
    rfl
   rw[<-hp];exact Hm
 . go_upto_region 22 with (fail)
   have Yr:=(zBr _ w7).alloc (zR _) (.cells #[.bool false,.slice Qn f1.length QI,.slice Xk l2.length Xl] 273);have xv:=zh (Q7.o.later Yr);have xh:=zh (yq.o.later Yr);have Vb:=zh (jy.o.later Yr);have HU:=zh (kQ (p:=⟨false,f1,l2⟩) Q7.o.m yq.o.f jy.o.l);have Vq:zH (P<w7.heap.size/\Q<w7.heap.size/\A<w7.heap.size/\w.heap.size<=w7.heap.size):=zh ⟨lP,lQ,lA,Q7.o.k.size⟩;clear Q7 yq jy p0 p1 p2 q0 q1 q2 lP lQ lA Yr;dsimp only at HU
   generalize w7.alloc (.cells #[.bool false,.slice Qn f1.length QI,.slice Xk l2.length Xl] 273)=w8 at xv xh Vb HU ⊢;generalize w7.heap.size=U at HU Vq ⊢;obtain⟨p0,p1,p2⟩:=xh.o.cells;obtain⟨q0,q1,q2⟩:=Vb.o.cells;obtain⟨u0,u1,u2⟩:=HU.o.cells;dsimp only at p0 p1 p2 q0 q1 q2 u0 u1 u2;have lP:=aA xh.o.b;have lQ:=aA Vb.o.b;have lA:=aA xv.o.r
   have HK:=zh (jO (.slice Yz l1.length yo) (.slice Xk l2.length Xl) (eX l1) (eX l2) w8 xh.o.l.1 Vb.o.l.1 (by rw[bO];have:=js.o;omega) (by rw[bO];have:=js.o;omega));rw[<-jX,bO] at HK;have Cn:∀ (w2:World),Below w8.heap.size w8 w2->w2.cell? ⟨U,2,none⟩=some (.slice Xk l2.length Xl)/\w2.frozen? ⟨U,2,none⟩=false/\U<w2.heap.size:=λw2 hb=>by
    have h1:=(HU.o.later hb).b;exact⟨by rw[aB _ _ 2 _ _ _ h1];rfl,aM _ _ _ _ _ h1,aA h1⟩
   have Ae:=zh Cn;clear Cn;obtain⟨J2,CU⟩:=zE (cY l1 l2);rw[<-CU] at HK;have CG:=zh CU;clear CU;go_upto_region 23 with (go_at_call 128;refine HK.o.mono ?_;rintro e' v8 ⟨Qf,Qg,rfl,hn⟩;have yb:=zh hn;obtain⟨sf1,sf2,sf3⟩:=Ae.o _ hn.2.2;clear hn)
   clear sf1 sf2 sf3 Ae u0 u1 u2 p0 p1 p2 q0 q1 q2 lP lQ lA;have T4:=zh (xv.o.later yb.o.2.2);have ay:=zh (xh.o.later yb.o.2.2);have Aa:=zh (Vb.o.later yb.o.2.2);have Pd:=zh (HU.o.later yb.o.2.2);have AP:gJ mb S7 v8 (.slice Qf J2.length Qg) J2:=lN xv.o.m yb.o;have x6:=Pd.o.b;have XV:∀ g,g≠U->(v8.setCell ⟨U,2,none⟩ (.slice Qf J2.length Qg)).heap[g]?=v8.heap[g]?:=λg hg=>aG _ _ _ _ hg
   have Cy:(v8.setCell ⟨U,2,none⟩ (.slice Qf J2.length Qg)).os=v8.os/\(v8.setCell ⟨U,2,none⟩ (.slice Qf J2.length Qg)).tape=v8.tape/\(v8.setCell ⟨U,2,none⟩ (.slice Qf J2.length Qg)).output=v8.output/\v8.heap.size<=(v8.setCell ⟨U,2,none⟩ (.slice Qf J2.length Qg)).heap.size:=⟨rfl,rfl,rfl,by simp[World.setCell]⟩;have Vl:=zh (T4.o.part x6 (λe=>by have:=Vq.o;omega) (by have:=Vq.o;omega) XV Cy);have pp:=zh (ay.o.part x6 (λe=>by have:=Vq.o;omega) XV)
   have pu:=zh (Aa.o.part x6 (λe=>by have:=Vq.o;omega) XV);have KM:zH (PBt mb S7 (v8.setCell ⟨U,2,none⟩ (.slice Qf J2.length Qg)) U ⟨false,f1,J2⟩ Qn Qf QI Qg):=zh ⟨aC _ U 2 _ _ _ _ x6,Pd.o.f.part x6 XV,AP.part x6 XV⟩;clear AP x6 XV Cy T4 ay Aa Pd xv xh Vb HU yb;generalize v8.setCell ⟨U,2,none⟩ (.slice Qf J2.length Qg)=w9 at Vl pp pu KM ⊢;obtain⟨p0,p1,p2⟩:=pp.o.cells;obtain⟨q0,q1,q2⟩:=pu.o.cells;obtain⟨u0,u1,u2⟩:=KM.o.cells
   dsimp only at p0 p1 p2 q0 q1 q2 u0 u1 u2;have lP:=aA pp.o.b;have lQ:=aA pu.o.b;have lA:=aA Vl.o.r;obtain⟨x0,y0,x1,y1,x2,y2⟩:=gB Vl.o.r (.bool false) (.slice Qn f1.length QI);go_wp2_with (fail);clear x0 y0 x1 y1 x2 y2;obtain⟨z0,z1,z2,zk,zb⟩:=iM Vl.o.r (.bool false) (.slice Qn f1.length QI) (.slice Qf J2.length Qg);refine bodyPost_ret (v:=.agg #[.bool false,.slice Qn f1.length QI,.slice Qf J2.length Qg]) (by simp[results,Tryz.results127,go_sem,z0,z1,z2]) rfl ?_
   have Hm:=Vl.o.fin KJ.o (p:=⟨false,f1,J2⟩) KM.o.f KM.o.l zk zb;have hp:(⟨false,f1,J2⟩:jK)=catP ⟨false,f1,l1⟩ ⟨true,f2,l2⟩:=by
    rw[CG.o];rfl
   rw[<-hp];exact Hm
 . go_upto_region 20 with (fail)
   have Yr:=(zBr _ w7).alloc (zR _) (.cells #[.bool false,.slice Qn f1.length QI,.slice Xk l2.length Xl] 273);have xv:=zh (Q7.o.later Yr);have xh:=zh (yq.o.later Yr);have Vb:=zh (jy.o.later Yr);have HU:=zh (kQ (p:=⟨false,f1,l2⟩) Q7.o.m yq.o.f jy.o.l);have Vq:zH (P<w7.heap.size/\Q<w7.heap.size/\A<w7.heap.size/\w.heap.size<=w7.heap.size):=zh ⟨lP,lQ,lA,Q7.o.k.size⟩;clear Q7 yq jy p0 p1 p2 q0 q1 q2 lP lQ lA Yr;dsimp only at HU
   generalize w7.alloc (.cells #[.bool false,.slice Qn f1.length QI,.slice Xk l2.length Xl] 273)=w8 at xv xh Vb HU ⊢;generalize w7.heap.size=U at HU Vq ⊢;obtain⟨p0,p1,p2⟩:=xh.o.cells;obtain⟨q0,q1,q2⟩:=Vb.o.cells;obtain⟨u0,u1,u2⟩:=HU.o.cells;dsimp only at p0 p1 p2 q0 q1 q2 u0 u1 u2;have lP:=aA xh.o.b;have lQ:=aA Vb.o.b;have lA:=aA xv.o.r
   have HK:=zh (jO (.slice Qn f1.length QI) (.slice KN f2.length co5) (eX f1) (eX f2) w8 xh.o.f.1 Vb.o.f.1 (by rw[bO];have:=js.o;omega) (by rw[bO];have:=js.o;omega));rw[<-jX,bO] at HK;have Cn:∀ (w2:World),Below w8.heap.size w8 w2->w2.cell? ⟨U,1,none⟩=some (.slice Qn f1.length QI)/\w2.frozen? ⟨U,1,none⟩=false/\U<w2.heap.size:=λw2 hb=>by
    have h1:=(HU.o.later hb).b;exact⟨by rw[aB _ _ 1 _ _ _ h1];rfl,aM _ _ _ _ _ h1,aA h1⟩
   have Ae:=zh Cn;clear Cn;obtain⟨J1,Pe⟩:=zE (cY f1 f2);rw[<-Pe] at HK;have D8:=zh Pe;clear Pe;go_upto_region 21 with (go_at_call 128;refine HK.o.mono ?_;rintro e' v8 ⟨qt,qu,rfl,hn⟩;have QH:=zh hn;obtain⟨sf1,sf2,sf3⟩:=Ae.o _ hn.2.2;clear hn)
   clear sf1 sf2 sf3 Ae u0 u1 u2 p0 p1 p2 q0 q1 q2 lP lQ lA;have T3:=zh (xv.o.later QH.o.2.2);have ax:=zh (xh.o.later QH.o.2.2);have az:=zh (Vb.o.later QH.o.2.2);have Pb:=zh (HU.o.later QH.o.2.2);have AP:gJ mb S7 v8 (.slice qt J1.length qu) J1:=lN xv.o.m QH.o;have x6:=Pb.o.b;have XV:∀ g,g≠U->(v8.setCell ⟨U,1,none⟩ (.slice qt J1.length qu)).heap[g]?=v8.heap[g]?:=λg hg=>aG _ _ _ _ hg
   have Cy:(v8.setCell ⟨U,1,none⟩ (.slice qt J1.length qu)).os=v8.os/\(v8.setCell ⟨U,1,none⟩ (.slice qt J1.length qu)).tape=v8.tape/\(v8.setCell ⟨U,1,none⟩ (.slice qt J1.length qu)).output=v8.output/\v8.heap.size<=(v8.setCell ⟨U,1,none⟩ (.slice qt J1.length qu)).heap.size:=⟨rfl,rfl,rfl,by simp[World.setCell]⟩;have Vk:=zh (T3.o.part x6 (λe=>by have:=Vq.o;omega) (by have:=Vq.o;omega) XV Cy);have V4:=zh (ax.o.part x6 (λe=>by have:=Vq.o;omega) XV)
   have V5:=zh (az.o.part x6 (λe=>by have:=Vq.o;omega) XV);have V8:zH (PBt mb S7 (v8.setCell ⟨U,1,none⟩ (.slice qt J1.length qu)) U ⟨false,J1,l2⟩ qt Xk qu Xl):=zh ⟨aC _ U 1 _ _ _ _ x6,AP.part x6 XV,Pb.o.l.part x6 XV⟩;clear AP x6 XV Cy T3 ax az Pb xv xh Vb HU QH;generalize v8.setCell ⟨U,1,none⟩ (.slice qt J1.length qu)=w9 at Vk V4 V5 V8 ⊢;obtain⟨p0,p1,p2⟩:=V4.o.cells;obtain⟨q0,q1,q2⟩:=V5.o.cells;obtain⟨u0,u1,u2⟩:=V8.o.cells
   dsimp only at p0 p1 p2 q0 q1 q2 u0 u1 u2;have lP:=aA V4.o.b;have lQ:=aA V5.o.b;have lA:=aA Vk.o.r;obtain⟨x0,y0,x1,y1,x2,y2⟩:=gB Vk.o.r (.bool false) (.slice qt J1.length qu);go_wp2_with (fail);clear x0 y0 x1 y1 x2 y2;obtain⟨z0,z1,z2,zk,zb⟩:=iM Vk.o.r (.bool false) (.slice qt J1.length qu) (.slice Xk l2.length Xl);refine bodyPost_ret (v:=.agg #[.bool false,.slice qt J1.length qu,.slice Xk l2.length Xl]) (by simp[results,Tryz.results127,go_sem,z0,z1,z2]) rfl ?_
   have Hm:=Vk.o.fin KJ.o (p:=⟨false,J1,l2⟩) V8.o.f V8.o.l zk zb;have hp:(⟨false,J1,l2⟩:jK)=catP ⟨true,f1,l1⟩ ⟨false,f2,l2⟩:=by
    rw[D8.o];rfl
   rw[<-hp];exact Hm
 go_upto_region 20 with (fail)
 have Yr:=(zBr _ w7).alloc (zR _) (.cells #[.bool true,.slice Qn f1.length QI,.slice Xk l2.length Xl] 273);have xv:=zh (Q7.o.later Yr);have xh:=zh (yq.o.later Yr);have Vb:=zh (jy.o.later Yr);have HU:=zh (kQ (p:=⟨true,f1,l2⟩) Q7.o.m yq.o.f jy.o.l);have Vq:zH (P<w7.heap.size/\Q<w7.heap.size/\A<w7.heap.size/\w.heap.size<=w7.heap.size):=zh ⟨lP,lQ,lA,Q7.o.k.size⟩;clear Q7 yq jy p0 p1 p2 q0 q1 q2 lP lQ lA Yr;dsimp only at HU
 generalize w7.alloc (.cells #[.bool true,.slice Qn f1.length QI,.slice Xk l2.length Xl] 273)=w8 at xv xh Vb HU ⊢;generalize w7.heap.size=U at HU Vq ⊢;obtain⟨p0,p1,p2⟩:=xh.o.cells;obtain⟨q0,q1,q2⟩:=Vb.o.cells;obtain⟨u0,u1,u2⟩:=HU.o.cells;dsimp only at p0 p1 p2 q0 q1 q2 u0 u1 u2;have lP:=aA xh.o.b;have lQ:=aA Vb.o.b;have lA:=aA xv.o.r
 have HK:=zh (jO (.slice Qn f1.length QI) (.slice KN f2.length co5) (eX f1) (eX f2) w8 xh.o.f.1 Vb.o.f.1 (by rw[bO];have:=js.o;omega) (by rw[bO];have:=js.o;omega));rw[<-jX,bO] at HK;have Cn:∀ (w2:World),Below w8.heap.size w8 w2->w2.cell? ⟨U,1,none⟩=some (.slice Qn f1.length QI)/\w2.frozen? ⟨U,1,none⟩=false/\U<w2.heap.size:=λw2 hb=>by
  have h1:=(HU.o.later hb).b;exact⟨by rw[aB _ _ 1 _ _ _ h1];rfl,aM _ _ _ _ _ h1,aA h1⟩
 have Ae:=zh Cn;clear Cn;obtain⟨J1,Pe⟩:=zE (cY f1 f2);rw[<-Pe] at HK;have D8:=zh Pe;clear Pe;go_upto_region 21 with (go_at_call 128;refine HK.o.mono ?_;rintro e' v8 ⟨qt,qu,rfl,hn⟩;have QH:=zh hn;obtain⟨sf1,sf2,sf3⟩:=Ae.o _ hn.2.2;clear hn)
 clear sf1 sf2 sf3 Ae u0 u1 u2 p0 p1 p2 q0 q1 q2 lP lQ lA;have T3:=zh (xv.o.later QH.o.2.2);have ax:=zh (xh.o.later QH.o.2.2);have az:=zh (Vb.o.later QH.o.2.2);have Pb:=zh (HU.o.later QH.o.2.2);have AP:gJ mb S7 v8 (.slice qt J1.length qu) J1:=lN xv.o.m QH.o;have x6:=Pb.o.b;have XV:∀ g,g≠U->(v8.setCell ⟨U,1,none⟩ (.slice qt J1.length qu)).heap[g]?=v8.heap[g]?:=λg hg=>aG _ _ _ _ hg
 have Cy:(v8.setCell ⟨U,1,none⟩ (.slice qt J1.length qu)).os=v8.os/\(v8.setCell ⟨U,1,none⟩ (.slice qt J1.length qu)).tape=v8.tape/\(v8.setCell ⟨U,1,none⟩ (.slice qt J1.length qu)).output=v8.output/\v8.heap.size<=(v8.setCell ⟨U,1,none⟩ (.slice qt J1.length qu)).heap.size:=⟨rfl,rfl,rfl,by simp[World.setCell]⟩;have Vk:=zh (T3.o.part x6 (λe=>by have:=Vq.o;omega) (by have:=Vq.o;omega) XV Cy);have V4:=zh (ax.o.part x6 (λe=>by have:=Vq.o;omega) XV)
 have V5:=zh (az.o.part x6 (λe=>by have:=Vq.o;omega) XV);have V8:zH (PBt mb S7 (v8.setCell ⟨U,1,none⟩ (.slice qt J1.length qu)) U ⟨true,J1,l2⟩ qt Xk qu Xl):=zh ⟨aC _ U 1 _ _ _ _ x6,AP.part x6 XV,Pb.o.l.part x6 XV⟩;clear AP x6 XV Cy T3 ax az Pb xv xh Vb HU QH;generalize v8.setCell ⟨U,1,none⟩ (.slice qt J1.length qu)=w9 at Vk V4 V5 V8 ⊢;obtain⟨p0,p1,p2⟩:=V4.o.cells;obtain⟨q0,q1,q2⟩:=V5.o.cells;obtain⟨u0,u1,u2⟩:=V8.o.cells
 dsimp only at p0 p1 p2 q0 q1 q2 u0 u1 u2;have lP:=aA V4.o.b;have lQ:=aA V5.o.b;have lA:=aA Vk.o.r;go_upto_region 22 with (fail)
 have HK:=zh (jO (.slice Yz l1.length yo) (.slice Xk l2.length Xl) (eX l1) (eX l2) w9 V4.o.l.1 V5.o.l.1 (by rw[bO];have:=js.o;omega) (by rw[bO];have:=js.o;omega));rw[<-jX,bO] at HK;have Cn:∀ (w2:World),Below w9.heap.size w9 w2->w2.cell? ⟨U,2,none⟩=some (.slice Xk l2.length Xl)/\w2.frozen? ⟨U,2,none⟩=false/\U<w2.heap.size:=λw2 hb=>by
  have h1:=(V8.o.later hb).b;exact⟨by rw[aB _ _ 2 _ _ _ h1];rfl,aM _ _ _ _ _ h1,aA h1⟩
 have Ae:=zh Cn;clear Cn;obtain⟨J2,CU⟩:=zE (cY l1 l2);rw[<-CU] at HK;have CG:=zh CU;clear CU;go_upto_region 23 with (go_at_call 128;refine HK.o.mono ?_;rintro e' v9 ⟨Qf,Qg,rfl,hn⟩;have yb:=zh hn;obtain⟨sf1,sf2,sf3⟩:=Ae.o _ hn.2.2;clear hn)
 clear sf1 sf2 sf3 Ae u0 u1 u2 p0 p1 p2 q0 q1 q2 lP lQ lA;have T4:=zh (Vk.o.later yb.o.2.2);have ay:=zh (V4.o.later yb.o.2.2);have Aa:=zh (V5.o.later yb.o.2.2);have Pd:=zh (V8.o.later yb.o.2.2);have AP:gJ mb S7 v9 (.slice Qf J2.length Qg) J2:=lN Vk.o.m yb.o;have x6:=Pd.o.b;have XV:∀ g,g≠U->(v9.setCell ⟨U,2,none⟩ (.slice Qf J2.length Qg)).heap[g]?=v9.heap[g]?:=λg hg=>aG _ _ _ _ hg
 have Cy:(v9.setCell ⟨U,2,none⟩ (.slice Qf J2.length Qg)).os=v9.os/\(v9.setCell ⟨U,2,none⟩ (.slice Qf J2.length Qg)).tape=v9.tape/\(v9.setCell ⟨U,2,none⟩ (.slice Qf J2.length Qg)).output=v9.output/\v9.heap.size<=(v9.setCell ⟨U,2,none⟩ (.slice Qf J2.length Qg)).heap.size:=⟨rfl,rfl,rfl,by simp[World.setCell]⟩;have Vl:=zh (T4.o.part x6 (λe=>by have:=Vq.o;omega) (by have:=Vq.o;omega) XV Cy);have pp:=zh (ay.o.part x6 (λe=>by have:=Vq.o;omega) XV)
 have pu:=zh (Aa.o.part x6 (λe=>by have:=Vq.o;omega) XV);have KM:zH (PBt mb S7 (v9.setCell ⟨U,2,none⟩ (.slice Qf J2.length Qg)) U ⟨true,J1,J2⟩ qt Qf qu Qg):=zh ⟨aC _ U 2 _ _ _ _ x6,Pd.o.f.part x6 XV,AP.part x6 XV⟩;clear AP x6 XV Cy T4 ay Aa Pd Vk V4 V5 V8 yb;generalize v9.setCell ⟨U,2,none⟩ (.slice Qf J2.length Qg)=Vi at Vl pp pu KM ⊢;obtain⟨p0,p1,p2⟩:=pp.o.cells;obtain⟨q0,q1,q2⟩:=pu.o.cells;obtain⟨u0,u1,u2⟩:=KM.o.cells
 dsimp only at p0 p1 p2 q0 q1 q2 u0 u1 u2;have lP:=aA pp.o.b;have lQ:=aA pu.o.b;have lA:=aA Vl.o.r;obtain⟨x0,y0,x1,y1,x2,y2⟩:=gB Vl.o.r (.bool true) (.slice qt J1.length qu);go_wp2_with (fail);clear x0 y0 x1 y1 x2 y2;obtain⟨z0,z1,z2,zk,zb⟩:=iM Vl.o.r (.bool true) (.slice qt J1.length qu) (.slice Qf J2.length Qg);refine bodyPost_ret (v:=.agg #[.bool true,.slice qt J1.length qu,.slice Qf J2.length Qg]) (by simp[results,Tryz.results127,go_sem,z0,z1,z2]) rfl ?_
 have Hm:=Vl.o.fin KJ.o (p:=⟨true,J1,J2⟩) KM.o.f KM.o.l zk zb;have hp:(⟨true,J1,J2⟩:jK)=catP ⟨true,f1,l1⟩ ⟨true,f2,l2⟩:=by
  rw[D8.o,CG.o];rfl
 rw[<-hp];exact Hm
theorem make_opt (hd:N[k]?=some d) (hk:d.k=6) (VZ:rB N nl d.a fa)
 (Ki:∀ M,gD M->gD (fa M).2/\dW (fa M).1 (fa M).2.fL.length/\M.fL.length<=(fa M).2.fL.length)
 (B mb:Nat) (D:MD) (S:MS) (w:World) (M:Mk) (h:lG B mb N nl D S w) (hr:kJ D M) (Hv:gD M) (qq:D.on=false):
 Calls Tryz.prog 127 #[bJ mb,.int .i64 k] w (qC B mb N nl S (⟨true,(fa M).1.fst,(fa M).1.lst⟩,(fa M).2) w):=by
 have pm:=zh qq;have QB:=zh Hv;obtain⟨yw,Vf,K2⟩:=Ki M Hv;have PO:=zh VZ;obtain⟨ra,Xa⟩:=zE (fa M);rw[<-Xa] at yw Vf K2 ⊢;obtain⟨⟨e1,f1,l1⟩,M1⟩:=ra;dsimp only at*;have X0:=zh Xa;clear Hv yw Vf K2 Ki VZ Xa;obtain⟨c0,c1,c2,c3,c4⟩:=h.cells;rw[qq] at c4;obtain⟨Xy,cr,xl⟩:=iT (h.nrg d (zM hd)).1;obtain⟨gN,Yg,Yk,Dc,VS⟩:∃ g c,nl=.slice (some ⟨g,0,none⟩) N.length c/\k<N.length/\g<w.heap.size:=by
  have hk:=(List.getElem?_eq_some_iff.1 hd).1
  rcases bD h.nrow with⟨_,h0⟩|⟨g,cap,e,_,hg⟩
  . omega
  exact⟨g,cap,e,hk,hg⟩
 have Qm:=h.nrow;rw[Yk] at Qm;obtain⟨d0,d1,d2,d3,d4⟩:=mH N k d hd;have n0:=aE Qm _ _ d0;have n1:=aE Qm _ _ d1;have n2:=aE Qm _ _ d2;have n3:=aE Qm _ _ d3;have n4:=aE Qm _ _ d4;rw[xl] at n1;rw[Yk] at c0;rw[hk] at n0;have zk:(k:Int)<(N.length:Int):=by omega
 have qr:=zh (uD w d);rw[xl,hk] at qr;have H:=zh (zAi h (zAi hr hd));have ya:w.heap.size<w.heap.size+1+1:=by omega
 have Q8:zH (mb<w.heap.size):=zh h.lt;clear h hr Qm xl Yk d0 d1 d2 d3 d4 qq hd hk;unfold bJ;obtain⟨A,hA⟩:∃ A,w.heap.size=A:=⟨_,rfl⟩;rw[hA] at qr Q8 VS ya;have Yl:=Q8.o;go_enter Tryz.func127,Tryz.ntmps127;go_upto_region 2 with (fail)
 generalize QO:((w.alloc (.cells #[.bool false,.slice none 0 0,.slice none 0 0] 273)).alloc (.cells #[.int .i64 ((6:Nat):Int),.slice Xy d.rl.length cr,.int .i64 d.a,.int .i64 d.b,.int .i64 d.n] 301))=w2 at qr ⊢;clear QO n0 n1 n2 n3 n4 c0 c1 c2 c3 c4 zk VS;have HW:zH (w.heap.size=A):=zh hA;clear hA Yl ya;have QR:zH (lG B mb N nl D S w2):=zh (H.o.1.below (by have:=qr.o.b;rw[<-HW.o] at this;exact this));obtain⟨_,c1,c2,c3,c4⟩:=QR.o.cells;rw[pm.o] at c4;obtain⟨m0,m1,m2,m3,m4⟩:=qr.o.ncells
 have Yl:mb<w2.heap.size:=QR.o.lt;have Yp:zH (CSt B mb N nl S w A 6 (.slice Xy d.rl.length cr) d D S w2):=zh ⟨QR.o,lV.of_below (qr.o.b.mono (Nat.le_of_eq HW.o)),qr.o.r,qr.o.n,Nat.le_of_eq HW.o⟩;have QV:zH (kJ D M):=zh H.o.2.1;clear QR H Q8 HW qr;have HK:=zh (PO.o B mb D S w2 M Yp.o.m QV.o QB.o);rw[<-X0.o] at HK;unfold bJ at HK;clear Yl
 go_upto_region 35 with (go_at_call 127;refine HK.o.mono ?_;rintro e' v3 ⟨D3,S3,Qn,Yz,QI,yo,rfl,g1,g2,g3,g4,g5⟩;have HG:=zh (zAi g1 (zAi g2 (zAi g3 (zAi g4 g5))));clear g1 g2 g3 g4 g5)
 have Y3:=zh ((Yp.o.call HG.o.1 HG.o.2.2.1).later ((zBr _ v3).alloc (zR _) (.cells #[.bool e1,.slice Qn f1.length QI,.slice Yz l1.length yo] 273)));have qy:=zh (kQ (p:=⟨e1,f1,l1⟩) HG.o.1 HG.o.2.2.2.1 HG.o.2.2.2.2);have XH:zH (kJ D3 M1):=zh HG.o.2.1;have Ak:zH (w.heap.size<=v3.heap.size/\A<v3.heap.size):=zh ⟨zT Yp.o.k.size HG.o.2.2.1.size,zLd (aA Yp.o.r) HG.o.2.2.1.size⟩;clear HG Yp QV X0 PO c1 c2 c3 c4 m0 m1 m2 m3 m4;dsimp only at qy
 generalize v3.alloc (.cells #[.bool e1,.slice Qn f1.length QI,.slice Yz l1.length yo] 273)=w4 at Y3 qy ⊢;generalize v3.heap.size=P at qy Ak ⊢;obtain⟨m0,m1,m2,m3,m4⟩:=Y3.o.ncells;obtain⟨p0,p1,p2⟩:=qy.o.cells;dsimp only at p0 p1 p2;obtain⟨x0,y0,x1,y1,x2,y2⟩:=gB Y3.o.r (.bool true) (.slice Qn f1.length QI);go_wp2_with (fail);clear x0 y0 x1 y1 x2 y2;obtain⟨z0,z1,z2,zk,zb⟩:=iM Y3.o.r (.bool true) (.slice Qn f1.length QI) (.slice Yz l1.length yo)
 refine bodyPost_ret (v:=.agg #[.bool true,.slice Qn f1.length QI,.slice Yz l1.length yo]) (by simp[results,Tryz.results127,go_sem,z0,z1,z2]) rfl ?_;exact Y3.o.fin XH.o (p:=⟨true,f1,l1⟩) qy.o.f qy.o.l zk zb
theorem make_star (hd:N[k]?=some d) (hk:d.k=4) (VZ:rB N nl d.a fa)
 (Ki:∀ M,gD M->gD (fa M).2/\dW (fa M).1 (fa M).2.fL.length/\M.fL.length<=(fa M).2.fL.length)
 (B mb:Nat) (D:MD) (S:MS) (w:World) (M:Mk) (h:lG B mb N nl D S w) (hr:kJ D M) (Hv:gD M) (qq:D.on=false):
 Calls Tryz.prog 127 #[bJ mb,.int .i64 k] w (qC B mb N nl S (⟨(fa M).1.emp||true,(fa M).1.fst,(fa M).1.lst⟩,(fa M).2.links (fa M).1.lst (fa M).1.fst) w):=by
 have pm:=zh qq;have QB:=zh Hv;obtain⟨yw,Vf,K2⟩:=Ki M Hv;have PO:=zh VZ;obtain⟨ra,Xa⟩:=zE (fa M);rw[<-Xa] at yw Vf K2 ⊢;obtain⟨⟨e1,f1,l1⟩,M1⟩:=ra;dsimp only at*;have X0:=zh Xa;have vh:zH (gD M1/\dW ⟨e1,f1,l1⟩ M1.fL.length):=zh ⟨yw,Vf⟩;clear Hv yw Vf K2 Ki VZ Xa;obtain⟨c0,c1,c2,c3,c4⟩:=h.cells;rw[qq] at c4;obtain⟨Xy,cr,xl⟩:=iT (h.nrg d (zM hd)).1
 obtain⟨gN,Yg,Yk,Dc,VS⟩:∃ g c,nl=.slice (some ⟨g,0,none⟩) N.length c/\k<N.length/\g<w.heap.size:=by
  have hk:=(List.getElem?_eq_some_iff.1 hd).1
  rcases bD h.nrow with⟨_,h0⟩|⟨g,cap,e,_,hg⟩
  . omega
  exact⟨g,cap,e,hk,hg⟩
 have Qm:=h.nrow;rw[Yk] at Qm;obtain⟨d0,d1,d2,d3,d4⟩:=mH N k d hd;have n0:=aE Qm _ _ d0;have n1:=aE Qm _ _ d1;have n2:=aE Qm _ _ d2;have n3:=aE Qm _ _ d3;have n4:=aE Qm _ _ d4;rw[xl] at n1;rw[Yk] at c0;rw[hk] at n0;have zk:(k:Int)<(N.length:Int):=by omega
 have qr:=zh (uD w d);rw[xl,hk] at qr;have H:=zh (zAi h (zAi hr hd));have ya:w.heap.size<w.heap.size+1+1:=by omega
 have Q8:zH (mb<w.heap.size):=zh h.lt;clear h hr Qm xl Yk d0 d1 d2 d3 d4 qq hd hk;unfold bJ;obtain⟨A,hA⟩:∃ A,w.heap.size=A:=⟨_,rfl⟩;rw[hA] at qr Q8 VS ya;have Yl:=Q8.o;go_enter Tryz.func127,Tryz.ntmps127;go_upto_region 2 with (fail)
 generalize QO:((w.alloc (.cells #[.bool false,.slice none 0 0,.slice none 0 0] 273)).alloc (.cells #[.int .i64 ((4:Nat):Int),.slice Xy d.rl.length cr,.int .i64 d.a,.int .i64 d.b,.int .i64 d.n] 301))=w2 at qr ⊢;clear QO n0 n1 n2 n3 n4 c0 c1 c2 c3 c4 zk VS;have HW:zH (w.heap.size=A):=zh hA;clear hA Yl ya;have QR:zH (lG B mb N nl D S w2):=zh (H.o.1.below (by have:=qr.o.b;rw[<-HW.o] at this;exact this));obtain⟨_,c1,c2,c3,c4⟩:=QR.o.cells;rw[pm.o] at c4;obtain⟨m0,m1,m2,m3,m4⟩:=qr.o.ncells
 have Yl:mb<w2.heap.size:=QR.o.lt;have Yp:zH (CSt B mb N nl S w A 4 (.slice Xy d.rl.length cr) d D S w2):=zh ⟨QR.o,lV.of_below (qr.o.b.mono (Nat.le_of_eq HW.o)),qr.o.r,qr.o.n,Nat.le_of_eq HW.o⟩;have QV:zH (kJ D M):=zh H.o.2.1;clear QR H Q8 HW qr;have HK:=zh (PO.o B mb D S w2 M Yp.o.m QV.o QB.o);rw[<-X0.o] at HK;unfold bJ at HK;clear Yl
 go_upto_region 31 with (go_at_call 127;refine HK.o.mono ?_;rintro e' v3 ⟨D3,S3,Qn,Yz,QI,yo,rfl,g1,g2,g3,g4,g5⟩;have HG:=zh (zAi g1 (zAi g2 (zAi g3 (zAi g4 g5))));clear g1 g2 g3 g4 g5)
 have Y3:=zh ((Yp.o.call HG.o.1 HG.o.2.2.1).later ((zBr _ v3).alloc (zR _) (.cells #[.bool e1,.slice Qn f1.length QI,.slice Yz l1.length yo] 273)));have qy:=zh (kQ (p:=⟨e1,f1,l1⟩) HG.o.1 HG.o.2.2.2.1 HG.o.2.2.2.2);have XH:zH (kJ D3 M1):=zh HG.o.2.1;have Ak:zH (w.heap.size<=v3.heap.size/\A<v3.heap.size):=zh ⟨zT Yp.o.k.size HG.o.2.2.1.size,zLd (aA Yp.o.r) HG.o.2.2.1.size⟩;clear HG Yp QV X0 PO c1 c2 c3 c4 m0 m1 m2 m3 m4;dsimp only at qy
 generalize v3.alloc (.cells #[.bool e1,.slice Qn f1.length QI,.slice Yz l1.length yo] 273)=w4 at Y3 qy ⊢;generalize v3.heap.size=P at qy Ak ⊢;obtain⟨m0,m1,m2,m3,m4⟩:=Y3.o.ncells;obtain⟨p0,p1,p2⟩:=qy.o.cells;dsimp only at p0 p1 p2;have Kj:D3.fL=M1.fL:=XH.o.fL
 have HK:=zh (zaQ B mb N nl D3 S3 w4 Y3.o.m (.slice Yz l1.length yo) (.slice Qn f1.length QI) l1 f1 qy.o.l qy.o.f (by rw[Kj];exact vh.o.2.l) (by rw[Kj];exact vh.o.2.f) (by rw[Kj];exact vh.o.1.f) (by rw[Kj];exact vh.o.1.le) (zT (cZ vh.o.2.ln vh.o.2.l) vh.o.1.le) (zT (cZ vh.o.2.fn vh.o.2.f) vh.o.1.le));unfold bJ at HK;clear Kj
 go_upto_region 32 with (go_at_call 152;refine HK.o.mono ?_;rintro e' w7 ⟨rfl,fv7,g1,g2⟩;have HG:=zh (zAi g1 g2);clear g1 g2)
 have Q7:=zh (Y3.o.call HG.o.1 HG.o.2);have yq:=zh (qy.o.call Y3.o.m HG.o.2);have KJ:zH (kJ {D3 with fL:=eA l1 f1 D3.fL} (M1.links l1 f1)):=zh ⟨XH.o.last,by show eA l1 f1 D3.fL=eA l1 f1 M1.fL;rw[XH.o.fL],XH.o.on,XH.o.len,XH.o.cL,XH.o.bd⟩;clear HG Y3 qy XH p0 p1 p2 m0 m1 m2 m3 m4;generalize ({D3 with fL:=eA l1 f1 D3.fL}:MD)=D7 at Q7 KJ;generalize ({S3 with fv:=fv7}:MS)=S7 at Q7 yq;obtain⟨p0,p1,p2⟩:=yq.o.cells;dsimp only at p0 p1 p2
 obtain⟨m0,m1,m2,m3,m4⟩:=Q7.o.ncells;cases e1
 . obtain⟨x0,y0,x1,y1,x2,y2⟩:=gB Q7.o.r (.bool true) (.slice Qn f1.length QI)
   go_wp2_with (fail);clear x0 y0 x1 y1 x2 y2;obtain⟨z0,z1,z2,zk,zb⟩:=iM Q7.o.r (.bool true) (.slice Qn f1.length QI) (.slice Yz l1.length yo);refine bodyPost_ret (v:=.agg #[.bool true,.slice Qn f1.length QI,.slice Yz l1.length yo]) (by simp[results,Tryz.results127,go_sem,z0,z1,z2]) rfl ?_;exact Q7.o.fin KJ.o (p:=⟨true,f1,l1⟩) yq.o.f yq.o.l zk zb
 obtain⟨x0,y0,x1,y1,x2,y2⟩:=gB Q7.o.r (.bool true) (.slice Qn f1.length QI)
 go_wp2_with (fail);clear x0 y0 x1 y1 x2 y2;obtain⟨z0,z1,z2,zk,zb⟩:=iM Q7.o.r (.bool true) (.slice Qn f1.length QI) (.slice Yz l1.length yo);refine bodyPost_ret (v:=.agg #[.bool true,.slice Qn f1.length QI,.slice Yz l1.length yo]) (by simp[results,Tryz.results127,go_sem,z0,z1,z2]) rfl ?_;exact Q7.o.fin KJ.o (p:=⟨true,f1,l1⟩) yq.o.f yq.o.l zk zb
theorem make_plus (hd:N[k]?=some d) (hk:d.k=5) (VZ:rB N nl d.a fa)
 (Ki:∀ M,gD M->gD (fa M).2/\dW (fa M).1 (fa M).2.fL.length/\M.fL.length<=(fa M).2.fL.length)
 (B mb:Nat) (D:MD) (S:MS) (w:World) (M:Mk) (h:lG B mb N nl D S w) (hr:kJ D M) (Hv:gD M) (qq:D.on=false):
 Calls Tryz.prog 127 #[bJ mb,.int .i64 k] w (qC B mb N nl S (⟨(fa M).1.emp||false,(fa M).1.fst,(fa M).1.lst⟩,(fa M).2.links (fa M).1.lst (fa M).1.fst) w):=by
 have pm:=zh qq;have QB:=zh Hv;obtain⟨yw,Vf,K2⟩:=Ki M Hv;have PO:=zh VZ;obtain⟨ra,Xa⟩:=zE (fa M);rw[<-Xa] at yw Vf K2 ⊢;obtain⟨⟨e1,f1,l1⟩,M1⟩:=ra;dsimp only at*;have X0:=zh Xa;have vh:zH (gD M1/\dW ⟨e1,f1,l1⟩ M1.fL.length):=zh ⟨yw,Vf⟩;clear Hv yw Vf K2 Ki VZ Xa;obtain⟨c0,c1,c2,c3,c4⟩:=h.cells;rw[qq] at c4;obtain⟨Xy,cr,xl⟩:=iT (h.nrg d (zM hd)).1
 obtain⟨gN,Yg,Yk,Dc,VS⟩:∃ g c,nl=.slice (some ⟨g,0,none⟩) N.length c/\k<N.length/\g<w.heap.size:=by
  have hk:=(List.getElem?_eq_some_iff.1 hd).1
  rcases bD h.nrow with⟨_,h0⟩|⟨g,cap,e,_,hg⟩
  . omega
  exact⟨g,cap,e,hk,hg⟩
 have Qm:=h.nrow;rw[Yk] at Qm;obtain⟨d0,d1,d2,d3,d4⟩:=mH N k d hd;have n0:=aE Qm _ _ d0;have n1:=aE Qm _ _ d1;have n2:=aE Qm _ _ d2;have n3:=aE Qm _ _ d3;have n4:=aE Qm _ _ d4;rw[xl] at n1;rw[Yk] at c0;rw[hk] at n0;have zk:(k:Int)<(N.length:Int):=by omega
 have qr:=zh (uD w d);rw[xl,hk] at qr;have H:=zh (zAi h (zAi hr hd));have ya:w.heap.size<w.heap.size+1+1:=by omega
 have Q8:zH (mb<w.heap.size):=zh h.lt;clear h hr Qm xl Yk d0 d1 d2 d3 d4 qq hd hk;unfold bJ;obtain⟨A,hA⟩:∃ A,w.heap.size=A:=⟨_,rfl⟩;rw[hA] at qr Q8 VS ya;have Yl:=Q8.o;go_enter Tryz.func127,Tryz.ntmps127;go_upto_region 2 with (fail)
 generalize QO:((w.alloc (.cells #[.bool false,.slice none 0 0,.slice none 0 0] 273)).alloc (.cells #[.int .i64 ((5:Nat):Int),.slice Xy d.rl.length cr,.int .i64 d.a,.int .i64 d.b,.int .i64 d.n] 301))=w2 at qr ⊢;clear QO n0 n1 n2 n3 n4 c0 c1 c2 c3 c4 zk VS;have HW:zH (w.heap.size=A):=zh hA;clear hA Yl ya;have QR:zH (lG B mb N nl D S w2):=zh (H.o.1.below (by have:=qr.o.b;rw[<-HW.o] at this;exact this));obtain⟨_,c1,c2,c3,c4⟩:=QR.o.cells;rw[pm.o] at c4;obtain⟨m0,m1,m2,m3,m4⟩:=qr.o.ncells
 have Yl:mb<w2.heap.size:=QR.o.lt;have Yp:zH (CSt B mb N nl S w A 5 (.slice Xy d.rl.length cr) d D S w2):=zh ⟨QR.o,lV.of_below (qr.o.b.mono (Nat.le_of_eq HW.o)),qr.o.r,qr.o.n,Nat.le_of_eq HW.o⟩;have QV:zH (kJ D M):=zh H.o.2.1;clear QR H Q8 HW qr;have HK:=zh (PO.o B mb D S w2 M Yp.o.m QV.o QB.o);rw[<-X0.o] at HK;unfold bJ at HK;clear Yl
 go_upto_region 31 with (go_at_call 127;refine HK.o.mono ?_;rintro e' v3 ⟨D3,S3,Qn,Yz,QI,yo,rfl,g1,g2,g3,g4,g5⟩;have HG:=zh (zAi g1 (zAi g2 (zAi g3 (zAi g4 g5))));clear g1 g2 g3 g4 g5)
 have Y3:=zh ((Yp.o.call HG.o.1 HG.o.2.2.1).later ((zBr _ v3).alloc (zR _) (.cells #[.bool e1,.slice Qn f1.length QI,.slice Yz l1.length yo] 273)));have qy:=zh (kQ (p:=⟨e1,f1,l1⟩) HG.o.1 HG.o.2.2.2.1 HG.o.2.2.2.2);have XH:zH (kJ D3 M1):=zh HG.o.2.1;have Ak:zH (w.heap.size<=v3.heap.size/\A<v3.heap.size):=zh ⟨zT Yp.o.k.size HG.o.2.2.1.size,zLd (aA Yp.o.r) HG.o.2.2.1.size⟩;clear HG Yp QV X0 PO c1 c2 c3 c4 m0 m1 m2 m3 m4;dsimp only at qy
 generalize v3.alloc (.cells #[.bool e1,.slice Qn f1.length QI,.slice Yz l1.length yo] 273)=w4 at Y3 qy ⊢;generalize v3.heap.size=P at qy Ak ⊢;obtain⟨m0,m1,m2,m3,m4⟩:=Y3.o.ncells;obtain⟨p0,p1,p2⟩:=qy.o.cells;dsimp only at p0 p1 p2;have Kj:D3.fL=M1.fL:=XH.o.fL
 have HK:=zh (zaQ B mb N nl D3 S3 w4 Y3.o.m (.slice Yz l1.length yo) (.slice Qn f1.length QI) l1 f1 qy.o.l qy.o.f (by rw[Kj];exact vh.o.2.l) (by rw[Kj];exact vh.o.2.f) (by rw[Kj];exact vh.o.1.f) (by rw[Kj];exact vh.o.1.le) (zT (cZ vh.o.2.ln vh.o.2.l) vh.o.1.le) (zT (cZ vh.o.2.fn vh.o.2.f) vh.o.1.le));unfold bJ at HK;clear Kj
 go_upto_region 32 with (go_at_call 152;refine HK.o.mono ?_;rintro e' w7 ⟨rfl,fv7,g1,g2⟩;have HG:=zh (zAi g1 g2);clear g1 g2)
 have Q7:=zh (Y3.o.call HG.o.1 HG.o.2);have yq:=zh (qy.o.call Y3.o.m HG.o.2);have KJ:zH (kJ {D3 with fL:=eA l1 f1 D3.fL} (M1.links l1 f1)):=zh ⟨XH.o.last,by show eA l1 f1 D3.fL=eA l1 f1 M1.fL;rw[XH.o.fL],XH.o.on,XH.o.len,XH.o.cL,XH.o.bd⟩;clear HG Y3 qy XH p0 p1 p2 m0 m1 m2 m3 m4;generalize ({D3 with fL:=eA l1 f1 D3.fL}:MD)=D7 at Q7 KJ;generalize ({S3 with fv:=fv7}:MS)=S7 at Q7 yq;obtain⟨p0,p1,p2⟩:=yq.o.cells;dsimp only at p0 p1 p2
 obtain⟨m0,m1,m2,m3,m4⟩:=Q7.o.ncells;cases e1
 . obtain⟨x0,y0,x1,y1,x2,y2⟩:=gB Q7.o.r (.bool false) (.slice Qn f1.length QI)
   go_wp2_with (fail);clear x0 y0 x1 y1 x2 y2;obtain⟨z0,z1,z2,zk,zb⟩:=iM Q7.o.r (.bool false) (.slice Qn f1.length QI) (.slice Yz l1.length yo);refine bodyPost_ret (v:=.agg #[.bool false,.slice Qn f1.length QI,.slice Yz l1.length yo]) (by simp[results,Tryz.results127,go_sem,z0,z1,z2]) rfl ?_;exact Q7.o.fin KJ.o (p:=⟨false,f1,l1⟩) yq.o.f yq.o.l zk zb
 obtain⟨x0,y0,x1,y1,x2,y2⟩:=gB Q7.o.r (.bool true) (.slice Qn f1.length QI)
 go_wp2_with (fail);clear x0 y0 x1 y1 x2 y2;obtain⟨z0,z1,z2,zk,zb⟩:=iM Q7.o.r (.bool true) (.slice Qn f1.length QI) (.slice Yz l1.length yo);refine bodyPost_ret (v:=.agg #[.bool true,.slice Qn f1.length QI,.slice Yz l1.length yo]) (by simp[results,Tryz.results127,go_sem,z0,z1,z2]) rfl ?_;exact Q7.o.fin KJ.o (p:=⟨true,f1,l1⟩) yq.o.f yq.o.l zk zb
