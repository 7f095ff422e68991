/- Part of a proof. No condition. -/
import Derived.Test.YtghpmhllpaheiaaGreatDoorF41
import Derived.Test.YtghpmhllpaheiaaGreatDoorF22
set_option linter.unusedVariables false
set_option linter.unusedSimpArgs false
set_option maxRecDepth 100000
set_option maxHeartbeats 4000000
namespace Go.Proofs.YtghpmhllpaheiaaGreatDoor
open Go.RowKit Go.Lib
variable {w:World}
def oU (c:Int) (n:Nat):Nat:=(if c<0 then -(c+1) else c).toNat%n
theorem za0 (c:Int) (n:Nat) (hc: -9223372036854775808<=c/\c<=9223372036854775807) (hn:0<n) (xo:n<=1000000) (w:World):
 Calls Tryz.prog 89 #[.int .i64 c,.int .i64 n] w λe w'=>e=.returned (.int .i64 (oU c n))/\w'=w:=by
 by_cases h:c<0
 . have e1:IntKind.i64.wrap (c+1)=c+1:=zIn _ (by omega)
   have e2:IntKind.i64.wrap (-(c+1))= -(c+1):=zIn _ (by omega);go_enter Tryz.func89,Tryz.ntmps89;go_wp2;go_ret;refine⟨?_,rfl⟩;have e3: -(c+1).tmod (n:Int)=((oU c n:Nat):Int):=by
    unfold oU;rw[zP h,<-Int.neg_tmod,Int.tmod_eq_emod_of_nonneg (by omega),Int.natCast_emod,Int.toNat_of_nonneg (by omega)]
   rw[<-e3];rfl
 go_enter Tryz.func89,Tryz.ntmps89
 go_wp2;go_ret;refine⟨?_,rfl⟩;have e3:c%(n:Int)=((oU c n:Nat):Int):=by
  unfold oU;rw[zN (by omega),Int.natCast_emod,Int.toNat_of_nonneg (by omega)]
 rw[<-e3];rfl
structure pC where
 kind:Int
 x:Int
 a:Int
 b:Int
 s:ByteArray
def pC.cells (o:pC):Array Value:=#[.int .i64 o.kind,.int .i64 o.x,.int .i64 o.a,.int .i64 o.b,.string o.s]
def In64 (c:Int):Prop:= -9223372036854775808<=c/\c<=9223372036854775807
structure pC.Ok (o:pC):Prop where
 x:In64 o.x
 a:In64 o.a
 b:In64 o.b
structure Wld where
 sT:List ByteArray
 pcs:List Pc
 ts:List Nat
 ss:List Nat
 last:ByteArray
structure kG (w:World) (wb:Nat) (X:Wld) (vR vP vT vS:Value):Prop where
 blk:w.heap[wb]?=some (.cells #[vR,vP,vT,vS,.string X.last] 172 (0,0))
 rr:w.ownsRow 0 9 1 vR X.sT.length (X.sT.map Value.string)
 rp:w.ownsRow 0 43 3 vP X.pcs.length (pR X.pcs)
 rt:w.ownsRow 0 218 1 vT X.ts.length (X.ts.map bJ)
 rs:w.ownsRow 0 222 1 vS X.ss.length (X.ss.map bJ)
 tn:X.ts=[]->vT=.slice none 0 0
 sn:X.ss=[]->vS=.slice none 0 0
section
variable {w w2:World} {wb:Nat} {X:Wld} {vR vP vT vS v:Value}
theorem kG.lt (h:kG w wb X vR vP vT vS):wb<w.heap.size:=aA h.blk
theorem kG.below (h:kG w wb X vR vP vT vS) (hb:Below w.heap.size w w2):kG w2 wb X vR vP vT vS:=
 ⟨(hb.block _ h.lt).trans h.blk,aZ h.rr hb,aZ h.rp hb,aZ h.rt hb,aZ h.rs hb,h.tn,h.sn⟩
theorem kG.oth {e:TypeId} {size n:Nat} {u:Value} {xs:List Value} (h:kG w wb X vR vP vT vS) (hr:w.ownsRow 0 e size u n xs) (he:e≠172) (i:Nat) (v:Value):(w.setCell ⟨wb,i,none⟩ v).ownsRow 0 e size u n xs:=
 bW hr h.blk he λg hg=>aG _ _ _ _ hg
theorem kG.setR (h:kG w wb X vR vP vT vS) {l:List ByteArray} (hr:w.ownsRow 0 9 1 v l.length (l.map Value.string)):kG (w.setCell ⟨wb,0,none⟩ v) wb {X with sT:=l} v vP vT vS:=
 ⟨by rw[aC _ wb 0 _ _ _ _ h.blk];rfl,h.oth hr (by decide) _ _,h.oth h.rp (by decide) _ _,h.oth h.rt (by decide) _ _,h.oth h.rs (by decide) _ _,h.tn,h.sn⟩
theorem kG.setP (h:kG w wb X vR vP vT vS) {l:List Pc} (hr:w.ownsRow 0 43 3 v l.length (pR l)):kG (w.setCell ⟨wb,1,none⟩ v) wb {X with pcs:=l} vR v vT vS:=
 ⟨by rw[aC _ wb 1 _ _ _ _ h.blk];rfl,h.oth h.rr (by decide) _ _,h.oth hr (by decide) _ _,h.oth h.rt (by decide) _ _,h.oth h.rs (by decide) _ _,h.tn,h.sn⟩
end
def ownP (o:pC) (X:Wld):Option Wld:=
 if o.kind=1 then some {X with sT:=X.sT++[o.s]}
 else if o.kind=2 then some {X with sT:=[]}
 else if o.kind=3 then some {X with pcs:=X.pcs++[⟨o.s,oU o.a 12,oU o.b 6⟩]}
 else if o.kind=4 then some {X with pcs:=[]}
 else none
def OwnO (o:pC) (wb:Nat) (X:Wld) (vT vS:Value) (w:World) (e:Ending) (w':World):Prop:=
 w.grownBy w' (some wb)/\((ownP o X=none/\e=.returned (.bool false)/\Below w.heap.size w w')\/∃ Y vR vP,ownP o X=some Y/\e=.returned (.bool true)/\kG w' wb Y vR vP vT vS)
theorem elemStr:eY Tryz.prog 29 9 1 16:=eY.of (z:=.string ⟨#[]⟩) Tryz.underlying29 (by kernel_rfl) rfl (by decide)
theorem strs_one (l:List ByteArray):∀ u∈l.map Value.string,u.oneCell'=true:=λu hu=>by
 obtain⟨x,_,rfl⟩:=List.mem_map.1 hu;rfl
theorem zcB {wa w1 w2:World} {ob:Obj} {v1:Value} (ha:Below w.heap.size w wa) (Qv:wa.grownBy w1 none) (Hk:v1.ownBlock=none\/v1.ownBlock=some wa.heap.size) (qf:(w1.alloc ob).grownBy w2 v1.ownBlock):Below w.heap.size w w2:=by
 have h1:Below w.heap.size w w1:=ha.grown Qv ha.size (λk h=>by cases h);refine (h1.alloc h1.size ob).grown qf (by simp;have:=h1.size;omega) (λk hk=> ?_)
 rcases Hk with e|e
 . rw[hk] at e;cases e
 rw[hk] at e;cases e;exact ha.size
theorem pcs_snoc (l:List Pc) (p:Pc):pR (l++[p])=pR l++[.string p.text,.int .i64 p.n,.int .i64 p.kind]:=by simp[pR]
theorem owner_any (o:pC) (ho:o.Ok) (w:World) (wb:Nat) (X:Wld) (vR vP vT vS:Value) (h:kG w wb X vR vP vT vS) (hl:X.sT.length<=900000/\X.pcs.length<=900000):
 Calls Tryz.prog 87 #[bJ wb,.agg o.cells] w (OwnO o wb X vT vS w):=by
 have H:=zh h;have HO:=zh ho;have HL:=zh hl;obtain⟨kind,x,a,b,s⟩:=o;have b0:=aB _ _ 0 _ _ _ h.blk;have b1:=aB _ _ 1 _ _ _ h.blk;have f0:=aM _ _ 0 _ _ h.blk;have f1:=aM _ _ 1 _ _ h.blk;have lb:=aA h.blk;obtain⟨aR,cR,XD⟩:=bM h.rr;obtain⟨aP,cP,wD⟩:=bM h.rp;simp only[zLa,zLc,zLb] at b0 b1;rw[XD] at b0 H;rw[wD] at b1 H;clear h ho hl XD wD;obtain⟨n0,Yj⟩:=zE (w.heap.size)
 have Ya:=(zBr w.heap.size w).alloc (zR _) (.cells #[.int .i64 kind,.int .i64 x,.int .i64 a,.int .i64 b,.string s] 107);have KA:=zh Ya;have eb:=zh Yj;have Bv:=zh (aZ H.o.rr Ya);have WA:=zh (aZ H.o.rp Ya);have IG:zH (∀ w,Calls Tryz.prog 89 #[.int .i64 a,.int .i64 12] w λe w'=>e=.returned (.int .i64 (oU a 12))/\w'=w):=zh (λw=>za0 a 12 HO.o.a (by decide) (by decide) w)
 have u9:zH (∀ w,Calls Tryz.prog 89 #[.int .i64 b,.int .i64 6] w λe w'=>e=.returned (.int .i64 (oU b 6))/\w'=w):=zh (λw=>za0 b 6 HO.o.b (by decide) (by decide) w);unfold bJ pC.cells;clear Ya Yj;by_cases k1:kind=1
 . subst k1
   go_enter Tryz.func87,Tryz.ntmps87;go_upto_region 6 with (at_builtin;refine mM _ rfl _ _ rfl elemStr _ _ _ rfl (by exact World.ownsRow_nil _ _ _ _) _ X.sT.length (X.sT.map Value.string) rfl (by exact Bv.o) (strs_one _) (by have:=HL.o;omega) (by decide) ?_;intro v1 w1 qg Qq YB;have H1:=zh (zAi qg (zAi Qq YB));clear qg Qq YB)
   rw[<-eb.o];obtain⟨a1,c1,Tv⟩:=bM H1.o.1;subst Tv;have MX:Below w.heap.size w w1:=KA.o.grown H1.o.2.1 KA.o.size (λk h=>by cases h);have Td:w1.heap[n0]?=some (.cells #[.int .i64 1,.int .i64 x,.int .i64 a,.int .i64 b,.string s] 107 (0,0)):=by
    rw[H1.o.2.1.block n0 (by simp;have:=eb.o;omega) (λe=>by cases e)];exact bR _ _ _ eb.o
   have q4:=aB _ _ 4 _ _ _ Td;simp only[zLa,zLc,zLb] at q4;clear Td
   go_wp2_with (at_builtin;refine dI rfl elemStr rfl (by exact (H1.o.1.alloc _)) [.string s] (by have:=HL.o;omega) ?_;intro v2 w2 xt YD Xn;obtain⟨a2,c2,Ku⟩:=bM xt;subst Ku;have Hr:=zcB KA.o H1.o.2.1 H1.o.2.2 YD;have b0':=(aL Hr ⟨wb,0,none⟩ lb).trans b0;have f0':=aM _ _ 0 _ _ ((Hr.block wb lb).trans H.o.blk);have H2:=zh (zAi xt Hr);clear xt YD Xn Hr)
   go_ret;refine⟨aD (aF H2.o.2 _) (eO _ wb 0 _),.inr ⟨_,_,_,zP rfl,rfl,(H.o.below H2.o.2).setR (l:=X.sT++[s]) ?_⟩⟩;have h:=H2.o.1;simpa using h
 by_cases k2:kind=2
 . subst k2
   go_enter Tryz.func87,Tryz.ntmps87;go_wp2_with (fail);go_ret;have h1:=H.o.setR (v:=.slice none 0 0) (l:=[]) (World.ownsRow_nil _ _ _ _);refine⟨?_,.inr ⟨_,_,_,by unfold ownP;dsimp only;rw[zN (by decide),zP rfl],rfl,h1.below ((zBr _ _).alloc (zR _) _)⟩⟩;exact aD (eO w wb 0 _) (aF ((zBr _ _).alloc (zR _) _) _)
 by_cases k3:kind=3
 . subst k3
   have Ya:=KA.o;go_enter Tryz.func87,Tryz.ntmps87;go_upto_region 11 with (go_at_call 89;refine (IG.o _).mono ?_;rintro e9 w3 ⟨rfl,rfl⟩)
   go_upto_region 12 with (go_at_call 89;refine (u9.o _).mono ?_;rintro e9 w3 ⟨rfl,rfl⟩)
   go_upto_region 14 with (at_builtin;refine mM _ rfl _ _ rfl zcP _ _ _ rfl (by exact World.ownsRow_nil _ _ _ _) _ X.pcs.length (pR X.pcs) rfl (by exact WA.o) (zd9 _) (by have:=HL.o;omega) (by decide) ?_;intro v1 w1 qg Qq YB;have H1:=zh (zAi qg (zAi Qq YB));clear qg Qq YB)
   rw[<-eb.o];obtain⟨a1,c1,Tv⟩:=bM H1.o.1;subst Tv;have MX:Below w.heap.size w w1:=KA.o.grown H1.o.2.1 KA.o.size (λk h=>by cases h);have Td:w1.heap[n0]?=some (.cells #[.int .i64 3,.int .i64 x,.int .i64 a,.int .i64 b,.string s] 107 (0,0)):=by
    rw[H1.o.2.1.block n0 (by simp;have:=eb.o;omega) (λe=>by cases e)];exact bR _ _ _ eb.o
   have q4:=aB _ _ 4 _ _ _ Td;simp only[zLa,zLc,zLb] at q4;clear Td
   go_wp2_with (at_builtin;refine dI rfl zcP rfl (by exact (H1.o.1.alloc _)) [.string s,.int .i64 (oU a 12),.int .i64 (oU b 6)] (by have:=HL.o;omega) ?_;intro v2 w2 xt YD Xn;obtain⟨a2,c2,Ku⟩:=bM xt;subst Ku;have Hr:=zcB KA.o H1.o.2.1 H1.o.2.2 YD;have b1':=(aL Hr ⟨wb,1,none⟩ lb).trans b1;have f1':=aM _ _ 1 _ _ ((Hr.block wb lb).trans H.o.blk);have H2:=zh (zAi xt Hr);clear xt YD Xn Hr)
   go_ret;refine⟨aD (aF H2.o.2 _) (eO _ wb 1 _),.inr ⟨_,_,_,by unfold ownP;dsimp only;rw[zN (by decide),zN (by decide),zP rfl],rfl,(H.o.below H2.o.2).setP (l:=X.pcs++[⟨s,oU a 12,oU b 6⟩]) ?_⟩⟩;have h:=H2.o.1;rw[pcs_snoc,zLn];simpa using h
 by_cases k4:kind=4
 . subst k4
   go_enter Tryz.func87,Tryz.ntmps87;go_wp2_with (fail);go_ret;have h1:=H.o.setP (v:=.slice none 0 0) (l:=[]) (World.ownsRow_nil _ _ _ _);refine⟨?_,.inr ⟨_,_,_,by unfold ownP;dsimp only;rw[zN (by decide),zN (by decide),zN (by decide),zP rfl],rfl,h1.below ((zBr _ _).alloc (zR _) _)⟩⟩;exact aD (eO w wb 1 _) (aF ((zBr _ _).alloc (zR _) _) _)
 go_enter Tryz.func87,Tryz.ntmps87
 go_wp2_with (fail);go_ret;exact⟨aF KA.o _,.inl ⟨by unfold ownP;rw[zN k1,zN k2,zN k3,zN k4],rfl,KA.o⟩⟩
def jY (l:List pC):List Value:=l.flatMap λo=>o.cells.toList
theorem zd7 (l:List pC) (i:Nat) (o:pC) (h:l[i]?=some o):(jY l)[i*5]?=some (.int .i64 o.kind)/\(jY l)[i*5+1]?=some (.int .i64 o.x)/\(jY l)[i*5+2]?=some (.int .i64 o.a)/\(jY l)[i*5+3]?=some (.int .i64 o.b)/\(jY l)[i*5+4]?=some (.string o.s):=by
 induction l generalizing i with
 | nil=>cases h
 | cons u l ih=>
  have e:jY (u::l)=[.int .i64 u.kind,.int .i64 u.x,.int .i64 u.a,.int .i64 u.b,.string u.s]++jY l:=by simp[jY,pC.cells]
  rw[e];cases i with
  | zero=>cases h;exact⟨rfl,rfl,rfl,rfl,rfl⟩
  | succ i=>
   have h2:=ih i h;refine⟨?_,?_,?_,?_,?_⟩
   . rw[zGr (by simp;omega),show (i+1)*5- [Value.int .i64 u.kind,.int .i64 u.x,.int .i64 u.a,.int .i64 u.b,.string u.s].length=i*5 by simp;omega];exact h2.1
   . rw[zGr (by simp;omega),show (i+1)*5+1- [Value.int .i64 u.kind,.int .i64 u.x,.int .i64 u.a,.int .i64 u.b,.string u.s].length=i*5+1 by simp;omega];exact h2.2.1
   . rw[zGr (by simp;omega),show (i+1)*5+2- [Value.int .i64 u.kind,.int .i64 u.x,.int .i64 u.a,.int .i64 u.b,.string u.s].length=i*5+2 by simp;omega];exact h2.2.2.1
   . rw[zGr (by simp;omega),show (i+1)*5+3- [Value.int .i64 u.kind,.int .i64 u.x,.int .i64 u.a,.int .i64 u.b,.string u.s].length=i*5+3 by simp;omega];exact h2.2.2.2.1
   rw[zGr (by simp;omega),show (i+1)*5+4- [Value.int .i64 u.kind,.int .i64 u.x,.int .i64 u.a,.int .i64 u.b,.string u.s].length=i*5+4 by simp;omega];exact h2.2.2.2.2
def sQ (w:World) (ao:Option Addr) (ops:List pC):Prop:=∀ (i:Nat) (o:pC),ops[i]?=some o->∃ b off,ao=some ⟨b,off,none⟩/\b<w.heap.size/\o.s.size<=140737488351232/\o.Ok/\
 w.cell? ⟨b,off+i*5,none⟩=some (.int .i64 o.kind)/\w.cell? ⟨b,off+(i*5+1),none⟩=some (.int .i64 o.x)/\w.cell? ⟨b,off+(i*5+2),none⟩=some (.int .i64 o.a)/\w.cell? ⟨b,off+(i*5+3),none⟩=some (.int .i64 o.b)/\w.cell? ⟨b,off+(i*5+4),none⟩=some (.string o.s)
theorem sQ.below {w':World} {ao:Option Addr} {ops:List pC} (h:sQ w ao ops) (hb:Below w.heap.size w w'):sQ w' ao ops:=λi o ho=>by
 obtain⟨b,off,h1,h2,h3,h4,h5,h6,h7,h8,h9⟩:=h i o ho;have k:∀ j,w'.cell? ⟨b,j,none⟩=w.cell? ⟨b,j,none⟩:=λj=>aL hb ⟨b,j,none⟩ h2;exact⟨b,off,h1,zLd h2 hb.size,h3,h4,by rw[k];exact h5,by rw[k];exact h6,by rw[k];exact h7,by rw[k];exact h8,by rw[k];exact h9⟩
theorem zfK {v:Value} {ops:List pC} (h:w.ownsRow 0 107 5 v ops.length (jY ops)) (hs:∀ o∈ops,o.s.size<=140737488351232/\o.Ok):∃ ao cap,v=.slice ao ops.length cap/\sQ w ao ops:=by
 rcases bD h with⟨rfl,h0⟩|⟨g,cap,rfl,_,hg⟩
 . rw[h0] at h ⊢
   exact⟨none,0,rfl,λi o ho=>by have:=(List.getElem?_eq_some_iff.1 ho).1;omega⟩
 refine⟨_,cap,rfl,λi o ho=> ?_⟩
 obtain⟨q0,q1,q2,q3,q4⟩:=zd7 ops i o ho;obtain⟨h1,h2⟩:=hs o (zM ho);refine⟨g,0,rfl,hg,h1,h2,?_,?_,?_,?_,?_⟩<;>rw[Nat.zero_add]
 . exact aE h _ _ q0
 . exact aE h _ _ q1
 . exact aE h _ _ q2
 . exact aE h _ _ q3
 exact aE h _ _ q4
theorem zf2 {l:List pC} {i:Nat} {o:pC} (h:l[i]?=some o):((l.take (i+1)).map (·.s.size)).sum=((l.take i).map (·.s.size)).sum+o.s.size:=by
 rw[List.take_add_one,h];simp
def SmallO (ops:List pC) (w:World) (e:Ending) (w':World):Prop:=w'=w/\∃ r,e=.returned (.bool r)/\(r=true->ops.length+(ops.map (·.s.size)).sum<=16384)
theorem small_any (ops:List pC) (w:World) (ao:Option Addr) (cap:Nat) (h:sQ w ao ops) (hl:ops.length<=140737488351232):
 Calls Tryz.prog 42 #[.slice ao ops.length cap] w (SmallO ops w):=by
 have HH:=zh h;clear h;by_cases hn:16384<ops.length
 . have z:(16384:Int)<(ops.length:Int):=by omega
   go_enter Tryz.func42,Tryz.ntmps42;go_wp2_with (fail);go_ret;exact⟨rfl,false,rfl,λh=>by cases h⟩
 have z:¬ (16384:Int)<(ops.length:Int):=by omega
 go_enter Tryz.func42,Tryz.ntmps42;go_wp2_with (fail);go_loopw [3,4] (λs3 s4 wr=>∃ i m:Nat,s4=.int .i64 i/\s3=.int .i64 m/\i<=ops.length/\m=ops.length+((ops.take i).map (·.s.size)).sum/\m<=16384/\wr=w) (λ_ s4 _=>ops.length-(RowKit.intOf s4).toNat)
 case atStart=>exact⟨0,ops.length,rfl,rfl,zZ _,by simp,by omega,rfl⟩
 case round=>
  obtain⟨i,m,rfl,rfl,hi,hm,TJ,rfl⟩:=hrel;have HM:=zh hm;clear hm;by_cases Hf:i<ops.length
  . have zi:(i:Int)<(ops.length:Int):=by omega
    obtain⟨o,ho⟩:=zG ops i Hf;obtain⟨b,off,rfl,hb,hs,_,_,_,_,_,c4⟩:=HH.o i o ho;have ui:=zW i (by omega);have hws:IntKind.i64.wrap ((m:Int)+(o.s.size:Int))=(m:Int)+(o.s.size:Int):=zIn _ (by omega);have HS:=zh (zf2 ho);have c4':wr.cell? ⟨b,off+i*5+4,none⟩=some (.string o.s):=by rw[Nat.add_assoc];exact c4
    clear ho;by_cases hg:16384<m+o.s.size
    . have zg:(16384:Int)<(m:Int)+(o.s.size:Int):=by omega
      go_wp2_with (fail);go_ret;exact⟨rfl,false,rfl,λh=>by cases h⟩
    have zg:¬ (16384:Int)<(m:Int)+(o.s.size:Int):=by omega
    go_wp2_with (fail);go_roundw
    case rel=>exact⟨i+1,m+o.s.size,by go_num,by go_num,by omega,by rw[HS.o,HM.o];omega,by omega,trivial⟩
    case measure=>(simp[zI]<;>omega)
  have zi:¬ (i:Int)<(ops.length:Int):=by omega
  have Jm:i=ops.length:=by omega
  have Hm:ops.length+(ops.map (·.s.size)).sum<=16384:=by
   have:=HM.o;rw[Jm,List.take_length] at this;omega
  have Y4:=zh Hm;clear Hm Jm;go_wp2_with (fail);go_ret;exact⟨rfl,true,rfl,λ_=>Y4.o⟩
theorem upTo_any (ops:List pC) (w:World) (ao:Option Addr) (cap:Nat) (h:sQ w ao ops) (hl:ops.length<=16384) (J:Nat->World->Prop) (h0:J 0 (w.alloc (.cells #[.slice none 0 0,.slice none 0 0,.slice none 0 0,.slice none 0 0,.string ⟨#[]⟩] 172)))
 (hJ:∀ i w',J i w'->Below w.heap.size w w') (hs:∀ i o w',ops[i]?=some o->J i w'->Calls Tryz.prog 71 #[bJ w.heap.size,.agg o.cells] w' λe w2=>e=.returned (.bool true)/\J (i+1) w2):
 Calls Tryz.prog 43 #[.slice ao ops.length cap] w λe w'=>e=.returned (.int .i64 (-1))/\Below w.heap.size w w':=by
 have HH:=zh h;have HJ:=zh hJ;have HS:=zh hs;have H0:=zh h0;clear h hJ hs h0;go_enter Tryz.func43,Tryz.ntmps43;go_wp2_with (fail);go_loopw [4] (λs4 wr=>∃ i:Nat,s4=.int .i64 i/\i<=ops.length/\J i wr) (λs4 _=>ops.length-(RowKit.intOf s4).toNat)
 case atStart=>exact⟨0,rfl,zZ _,H0.o⟩
 case round=>
  obtain⟨i,rfl,hi,hj⟩:=hrel;have LN:=zh hj;clear hj;by_cases Hf:i<ops.length
  . have zi:(i:Int)<(ops.length:Int):=by omega
    obtain⟨o,ho⟩:=zG ops i Hf;obtain⟨b,off,rfl,hb,_,_,c0,c1,c2,c3,c4⟩:=(HH.o.below (HJ.o i _ LN.o)) i o ho;have ui:=zW i (by omega);have HC:=zh (HS.o i o wr ho LN.o);unfold bJ pC.cells at HC;have c1':wr.cell? ⟨b,off+i*5+1,none⟩=some (.int .i64 o.x):=by rw[Nat.add_assoc];exact c1
    have c2':wr.cell? ⟨b,off+i*5+2,none⟩=some (.int .i64 o.a):=by rw[Nat.add_assoc];exact c2
    have c3':wr.cell? ⟨b,off+i*5+3,none⟩=some (.int .i64 o.b):=by rw[Nat.add_assoc];exact c3
    have c4':wr.cell? ⟨b,off+i*5+4,none⟩=some (.string o.s):=by rw[Nat.add_assoc];exact c4
    clear ho;go_wp2_with (first|(have H9:=HC.o;clear HC;go_at_call 71;refine H9.mono ?_;clear H9;rintro e w2 ⟨rfl,A1⟩;have CG:=zh A1;clear A1));go_roundw
    case rel=>exact⟨i+1,by go_num,by omega,CG.o⟩
    case measure=>(simp[zI]<;>omega)
  have zi:¬ (i:Int)<(ops.length:Int):=by omega
  have HB:=zh (HJ.o i _ LN.o);go_wp2_with (fail);go_ret;exact⟨rfl,HB.o⟩
theorem elemOp:eY Tryz.prog 65 107 5 48:=eY.of (z:=.agg #[.int .i64 0,.int .i64 0,.int .i64 0,.int .i64 0,.string ⟨#[]⟩]) Tryz.underlying65 (by kernel_rfl) rfl (by decide)
def qN (Hy:List Int) (o:pC):Bool:=decide (o.kind<5)||Hy.any (λk=>o.kind==k)
theorem zbu (p:pC->Bool):∀ (l:List pC),(l.filter p).length+((l.filter p).map (·.s.size)).sum<=l.length+(l.map (·.s.size)).sum
 | []=>zR _
 | o::l=>by
  have:=zbu p l;rw[List.filter_cons];split
  . simp only[List.length_cons,List.map_cons,List.sum_cons];omega
  simp only[List.length_cons,List.map_cons,List.sum_cons];omega
structure LSt (w:World) (ops:List pC) (Hy:List Int) (i:Nat) (l:List pC) (v:Value) (wr:World):Prop where
 eq:l=(ops.take i).filter (qN Hy)
 row:wr.ownsRow 0 107 5 v l.length (jY l)
 new:∀ g,v.ownBlock=some g->w.heap.size<=g
 bel:Below w.heap.size w wr
def UpH (w:World) (Hy:List Int):Prop:=∀ (l:List pC) (w':World) (ao:Option Addr) (cap:Nat),Below w.heap.size w w'->sQ w' ao l->(∀ o∈l,qN Hy o=true/\o.Ok)->l.length+(l.map (·.s.size)).sum<=16384->
 Calls Tryz.prog 43 #[.slice ao l.length cap] w' λe w2=>e=.returned (.int .i64 (-1))/\Below w'.heap.size w' w2
theorem zdj (ops:List pC) (Hy:List Int) (w:World) (ao:Option Addr) (cap:Nat) (gk ck:Nat) (h:sQ w ao ops) (hl:ops.length<=140737488351232) (hk:cW w (.slice (some ⟨gk,0,none⟩) Hy.length ck) Hy) (Y1:Hy.length<=100) (hU:UpH w Hy):
 Calls Tryz.prog 27 #[.slice ao ops.length cap,.slice (some ⟨gk,0,none⟩) Hy.length ck] w λe w'=>e=.returned (.bool true)/\Below w.heap.size w w':=by
 have YZ:=zh (small_any ops w ao cap h hl);have HH:=zh h;have HU:=zh hU;have lk:=(World.ownsRow.lt hk gk rfl).2;have Oc:∀ (j:Nat) (k:Int),Hy[j]?=some k->w.cell? ⟨gk,j,none⟩=some (.int .i64 k):=λj k hj=>aE hk j _ (by unfold dE;rw[List.getElem?_map,hj];rfl);have Bf:=zh Oc;have Wl:=zh Y1;clear h hU hk Oc hl;go_enter Tryz.func27,Tryz.ntmps27;go_upto_region 2 with (go_at_call 42;refine YZ.o.mono ?_;rintro e w' ⟨rfl,r,rfl,hr⟩)
 cases r with
 | false=>
  clear hr;go_wp2_with (fail);go_ret;exact⟨rfl,zBr _ _⟩
 | true=>
  have HR:=zh (hr rfl);have zn:ops.length<=16384:=by have:=HR.o;omega
  clear hr;go_wp2_with (fail);go_loopw [6,7] (λs6 s7 wr=>∃ (i:Nat) (l:List pC) (JP:Option Addr) (Vr:Nat),s7=.int .i64 i/\s6=.slice JP l.length Vr/\i<=ops.length/\LSt w' ops Hy i l (.slice JP l.length Vr) wr) (λ_ s7 _=>ops.length-(RowKit.intOf s7).toNat)
  case atStart=>exact⟨0,[],none,0,rfl,rfl,zZ _,by simp,World.ownsRow_nil _ _ _ _,λg e=>(by cases e),zBr _ _⟩
  case round=>
   obtain⟨i,l,JP,Vr,rfl,rfl,hi,hL⟩:=hrel;have HL:=zh hL;clear hL;by_cases Hf:i<ops.length
   . have zi:(i:Int)<(ops.length:Int):=by omega
     obtain⟨o,ho⟩:=zG ops i Hf;obtain⟨b,off,rfl,hb,_,_,c0,c1,c2,c3,c4⟩:=(HH.o.below HL.o.bel) i o ho;have ui:=zW i (by omega);have c1':wr.cell? ⟨b,off+i*5+1,none⟩=some (.int .i64 o.x):=by rw[Nat.add_assoc];exact c1
     have c2':wr.cell? ⟨b,off+i*5+2,none⟩=some (.int .i64 o.a):=by rw[Nat.add_assoc];exact c2
     have c3':wr.cell? ⟨b,off+i*5+3,none⟩=some (.int .i64 o.b):=by rw[Nat.add_assoc];exact c3
     have c4':wr.cell? ⟨b,off+i*5+4,none⟩=some (.string o.s):=by rw[Nat.add_assoc];exact c4
     have Tf:(ops.take (i+1)).filter (qN Hy)=l++(if qN Hy o=true then[o] else[]):=by
      rw[List.take_add_one,ho,List.filter_append,<-HL.o.eq];simp only[Option.toList_some,List.filter_cons,List.filter_nil]
     have Kc:=zh Tf;have lgk:=zLd lk HL.o.bel.size;have Rg:zH (∀ (j:Nat) (k:Int),Hy[j]?=some k->wr.cell? ⟨gk,j,none⟩=some (.int .i64 k)):=zh (λj k hj=>(aL HL.o.bel ⟨gk,j,none⟩ lk).trans (Bf.o j k hj));obtain⟨w3,YG⟩:=zE (wr);rw[<-YG] at c0 c1' c2' c3' c4' HL Rg lgk hb ⊢;clear Tf ho c1 c2 c3 c4 YG;go_wp2_with (fail)
     go_loopw [9,10] (λs9 Ka wr2=>∃ j:Nat,Ka=.int .i64 j/\s9=.bool (decide (o.kind<5)||(Hy.take j).any (λk=>o.kind==k))/\j<=Hy.length/\wr2=w3) (λ_ Ka _=>Hy.length-(RowKit.intOf Ka).toNat)
     case atStart=>exact⟨0,rfl,by simp,zZ _,rfl⟩
     case round=>
      obtain⟨j,rfl,rfl,hj,rfl⟩:=hrel;by_cases Yb:j<Hy.length
      . have zj:(j:Int)<(Hy.length:Int):=by omega
        have Lp:=zW j (by have:=Wl.o;omega);obtain⟨k,Od⟩:=zG Hy j Yb;have ck:=Rg.o j k Od;have Js:(decide (o.kind<5)||(Hy.take (j+1)).any (λk=>o.kind==k))=((decide (o.kind<5)||(Hy.take j).any (λk=>o.kind==k))||(o.kind==k)):=by
         rw[List.take_add_one,Od,List.any_append];simp[Bool.or_assoc]
        have QM:=zh Js;clear Js Od;generalize (decide (o.kind<5)||(Hy.take j).any (λk=>o.kind==k))=r at*;cases r with
        | true=>
         go_wp2_with (fail);go_roundw
         case rel=>exact⟨j+1,by go_num,by rw[QM.o];rfl,by omega,trivial⟩
         case measure=>(simp[zI]<;>omega)
        | false=>
         go_wp2_with (fail);go_roundw
         case rel=>exact⟨j+1,by go_num,by rw[QM.o];rfl,by omega,trivial⟩
         case measure=>(simp[zI]<;>omega)
      have zj:¬ (j:Int)<(Hy.length:Int):=by omega
      have UH:(decide (o.kind<5)||(Hy.take j).any (λk=>o.kind==k))=qN Hy o:=by
       rw[show j=Hy.length by omega,List.take_length];rfl
      rw[UH];clear UH;cases K1:qN Hy o with
      | false=>
       have HE:zH ((ops.take (i+1)).filter (qN Hy)=l):=zh (by rw[Kc.o,K1];simp);clear K1;go_wp2_with (fail);go_roundw
       case rel=>exact⟨i+1,l,_,_,by go_num,rfl,by omega,HE.o.symm,HL.o.row,HL.o.new,HL.o.bel⟩
       case measure=>(simp[zI]<;>omega)
      | true=>
       have HE:zH ((ops.take (i+1)).filter (qN Hy)=l++[o]):=zh (by rw[Kc.o,K1];simp);have Ko:l.length+1<=1000000000:=by
        have h1:=HL.o.eq;have h2:=List.length_filter_le (qN Hy) (ops.take i);rw[<-h1,List.length_take] at h2;omega
       have qk:=zh HL.o.row;clear K1;go_wp2_with (at_builtin;refine dI rfl elemOp rfl (by exact (qk.o.alloc _)) [.int .i64 o.kind,.int .i64 o.x,.int .i64 o.a,.int .i64 o.b,.string o.s] Ko ?_;intro v4 w4 Ho qj Qb;obtain⟨a4,c4,U7⟩:=bM Ho;subst U7;have H4:=zh (zAi Ho (zAi qj Qb));clear Ho qj Qb);go_roundw
       case rel=>
        refine⟨i+1,l++[o],a4,c4,by go_num,by simp,by omega,HE.o.symm,?_,λg e=> ?_,?_⟩
        . have h1:=H4.o.1
          have e:jY (l++[o])=jY l++[.int .i64 o.kind,.int .i64 o.x,.int .i64 o.a,.int .i64 o.b,.string o.s]:=by simp[jY,pC.cells]
          rw[e];simpa using h1
        . have hs:=HL.o.bel.size
          have e':(Value.slice a4 (l.length+1) c4).ownBlock=some g:=by simpa using e
          have h3:(Value.slice a4 (l.length+1) c4).ownBlock=(Value.slice JP l.length Vr).ownBlock\/(Value.slice a4 (l.length+1) c4).ownBlock=some (wr.heap.size+1):=by
           rcases H4.o.2.2 with h2|h2
           . exact .inl h2
           exact .inr (by rw[h2];simp)
          rcases h3 with h2|h2
          . exact HL.o.new g (h2.symm.trans e')
          rw[h2] at e'
          cases e';omega
        . exact (HL.o.bel.alloc HL.o.bel.size _).grown H4.o.2.1 (by simp;have:=HL.o.bel.size;omega) HL.o.new
       case measure=>(simp[zI]<;>omega)
   have zi:¬ (i:Int)<(ops.length:Int):=by omega
   have P8:l=ops.filter (qN Hy):=by rw[HL.o.eq,show i=ops.length by omega,List.take_length]
   have QN:∀ o∈l,o.s.size<=140737488351232/\o.Ok:=λo ho=>by
    rw[P8] at ho;obtain⟨n,hn⟩:=List.mem_iff_getElem?.1 (List.mem_filter.1 ho).1;obtain⟨_,_,_,_,h3,h4,_⟩:=HH.o n o hn;exact⟨h3,h4⟩
   obtain⟨Qn,cap3,OR,NU⟩:=zfK HL.o.row QN;cases OR;have ed:=zh (HU.o l wr JP Vr HL.o.bel NU (λo ho=>⟨by rw[P8] at ho;exact (List.mem_filter.1 ho).2,(QN o ho).2⟩) (by rw[P8];exact zT (zbu _ ops) HR.o));clear P8 QN NU;go_wp2_with (first|(go_at_call 43;refine ed.o.mono ?_;rintro e w4 ⟨rfl,Qa⟩;have Yn:=zh Qa;clear Qa));go_ret;exact⟨rfl,HL.o.bel.trans (Yn.o.mono HL.o.bel.size)⟩
