/- Part of a proof. No condition. -/
import Derived.Test.YtmfnmkccbldfpaaGreatDoorS20
import Derived.Shelf.Spec.DecodeRune
set_option linter.unusedVariables false
set_option linter.unusedSimpArgs false
set_option maxRecDepth 100000
set_option maxHeartbeats 40000000
namespace Go.Proofs.YtmfnmkccbldfpaaGreatDoor
open Go.RowKit Go.Shelf Tryz
def renD:Go.Shelf.Ren:=⟨fun|32=>47|49=>90|n=>n,fun|25=>215|30=>40|33=>133|66=>211|68=>213|69=>214|n=>n,fun|2=>0|3=>1|n=>n⟩
theorem layD:Go.Proofs.Lays7.n32 prog renD:={
 mixed:=by rfl
 f32:=func47.trans (congrArg some zr)
 f49:=func90.trans (congrArg some zr)
 t0:=underlying0
 a0:=isAgg0
 z0:=sizeOf0
 v0:=zeroValue0
 i0:=by kernel_rfl
 t3:=underlying3
 a3:=isAgg3
 z3:=sizeOf3
 v3:=zeroValue3
 i3:=by kernel_rfl
 t4:=underlying4
 a4:=isAgg4
 z4:=sizeOf4
 v4:=zeroValue4
 i4:=by kernel_rfl
 t5:=underlying5
 a5:=isAgg5
 z5:=sizeOf5
 v5:=zeroValue5
 i5:=by kernel_rfl
 t21:=underlying21
 a21:=isAgg21
 z21:=sizeOf21
 v21:=zeroValue21
 i21:=by kernel_rfl
 t25:=underlying215
 a25:=isAgg215
 z25:=sizeOf215
 v25:=zeroValue215
 i25:=by kernel_rfl
 t30:=underlying40
 a30:=isAgg40
 z30:=sizeOf40
 v30:=zeroValue40
 i30:=by kernel_rfl
 t33:=underlying133
 a33:=isAgg133
 z33:=sizeOf133
 v33:=zeroValue133
 i33:=by kernel_rfl
 t66:=underlying211
 a66:=isAgg211
 z66:=sizeOf211
 t68:=underlying213
 a68:=isAgg213
 z68:=sizeOf213
 v68:=zeroValue213
 i68:=by kernel_rfl
 t69:=underlying214
 a69:=isAgg214
 z69:=sizeOf214
 v69:=zeroValue214
 i69:=by kernel_rfl
 g2:=by kernel_rfl
 g3:=by kernel_rfl}
theorem zdb (s:η) (b off cap:Nat) (w:ω) (hT:Lib.Utf8Tabs 0 1 w)
 (hp:∀ j,j<s.size->w.v b (off+j) (.int .u8 (s.get! j).toNat)):
 Γ 47 #[τ (some (b.p off)) s.size cap] w λe w'=>e=ρ (ϕ #[ξ (Lib.decodeGo s).1,ι (Lib.decodeGo s).2])/\w.u w':=
 Any7.utf8_DecodeRune layD s b off cap w hT hp
end Go.Proofs.YtmfnmkccbldfpaaGreatDoor
namespace Go.Proofs.YtmfnmkccbldfpaaGreatDoor
set_option maxRecDepth 100000
set_option maxHeartbeats 40000000
open Go.RowKit Go.Lib Tryz
theorem zzDY {p:Prop} (h:p:=by
 go_wp2;go_end0;exact⟨rfl,by rw[HF.o.1];exact HF.o.2.1,HF.o.2.2⟩):p:=h
theorem zzDF {p:Prop} (h:p:=by
 obtain⟨x,_,rfl⟩:=List.mem_map.1 hu;rfl):p:=h
theorem zzCR {p:Prop} (h:p:=by cases e;rfl):p:=h
theorem zzCF {p:Prop} (h:p:=by
 clear Hg Qg ha;go_wp2;go_quiet (fail);go_wp2;go_end0;exact⟨rfl,by rw[HF.o.1];exact HF.o.2.1,aM HF.o.2.2 _⟩):p:=h
theorem zzBx {p:Prop} (h:p:=by assumption):p:=h
theorem zzBo {p:Prop} (h:p:=by simp[results,results43,go_sem]):p:=h
theorem zzBb {p:Prop} (h:p:=by first|exact qz.o.drew|exact aK qz.o _|assumption):p:=h
theorem zzBQ {p:Prop} (h:p:=by
 have h':0<=fQ T x.set c:=zo
 simp only[dC,Aa.o,HFP.o,Bool.and_eq_true,decide_eq_true_eq,Bool.not_eq_true',decide_eq_false_iff_not,true_and];exact⟨Hf,λe=>BK.o (by cases e;omega),h'⟩):p:=h
theorem zzAb {p:Prop} (h:p:=by
 intro w9 Pb
 go_simp;(try with_reducible rfl)):p:=h
theorem zzAD {p q:Prop} (k:q) (h:q->p:=by intro zz;refine aE 0 Hc ?_;refine aE 1 Hc ?_;refine aE 2 Hc ?_;refine aE 3 Hc ?_;refine aE 4 Hc ?_;exact zz):p:=h k
theorem zzAB {p:Prop} (h:p:=by
 have Qo:=zh Xw;have VE:=zh ji;have Ti:=zh vw;have HR:=zh hr;clear PV Qg vw fz ji Xw hr c0 c1 c2 c3 s0 s3;go_upto_region 5 with fail
 go_quiet ((go_at_call 85;exact Calls.quiet_of_same (Qo.o _)));by_cases XH:r<0
 . have Hg:=D0.o.1 r HR.o XH
   have HF:=zh Hg;clear Hg;go_wp2;go_end0;exact⟨rfl,by rw[HF.o];exact Ti.o,aM (oH HS.o.grown yg.o) _⟩
 obtain⟨m,rfl⟩:∃ m:Nat,r=(m:Int):=⟨r.toNat,zo⟩
 have TV:=D0.o.2 m HR.o zo;have K3:=lD TV;rw[Aa.o] at K3;have VN:x.alive+n<=s.size:=K3.1;have Q9:1<=n:=K3.2.1;have CS:n<=4:=K3.2.2;have Bx:m<T.gO.length:=by
  have h:=zhK HT.o (set:=x.set) (c:=c) (by rw[HR.o];omega);rw[HR.o] at h;exact h
 obtain⟨rx,je,jg⟩:∃ rx,T.rU[m]?=some rx/\T.rU.getD m (-1)=rx:=by
  have hl:m<T.rU.length:=by rw[HT.o.rules];exact Bx
  exact⟨T.rU[m],zLe hl,by rw[zLf,zLe hl];rfl⟩
 have e1:=VE.o.c1;have e2:=VE.o.rU m rx je;have MN:bt≠ba:=by have:=VE.o.lt;omega
 have IT:br≠ba:=by have:=VE.o.ltr;omega
 have hwB:B<=w4.heap.size:=zo
 have Qh:(m:Int)<(T.rU.length:Int):=by rw[HT.o.rules];omega
 have NT:IntKind.i64.wrap ((x.alive:Int)+(n:Int))=((x.alive+n:Nat):Int):=by rw[lM];omega
 have QI:nB T s x=if 0<=rx then⟨m,x.alive+n,x.alive+n,rx⟩ else⟨m,x.alive+n,x.long,x.rU⟩:=by
  unfold nB;rw[Aa.o];simp only[HR.o,Int.toNat_natCast,jg]
 have Ha:∃ f,s.size<f+(x.alive+n)/\dK T s f (nB T s x)=dK T s F x0:=by
  obtain⟨f,Ya,Ce⟩:=HS.o.rest;cases f with
  | zero=>omega
  | succ f=>
   rw[dK,zP TV] at Ce;exact⟨f,zo,Ce⟩
 have Ye:=zh (zAi QI Ha);have Qw:=zh (aM (oH HS.o.grown yg.o) nq);clear TV K3 je jg QI Ha XH;by_cases Cs:0<=rx
 . go_wp2
   go_roundg (gk-n)
   case rel=>
    refine⟨⟨m,x.alive+n,x.alive+n,rx⟩,zg,?_,?_,?_,VN,Bx⟩
    . exact (((show iZ (w4.drewN nq) ba x from Ti.o).set2 m (x.alive+n)).set4 (x.alive+n) rx)
    . exact aC Qw.o (aC (jN _ ba 0 1 _ _) (jN _ ba 2 3 _ _))
    have h:=Ye.o.2
    rw[Ye.o.1,zP Cs] at h;exact h
   omega
 go_wp2
 go_roundg (gk-n)
 case rel=>
  refine⟨⟨m,x.alive+n,x.long,x.rU⟩,zg,?_,?_,?_,VN,Bx⟩
  . exact ((show iZ (w4.drewN nq) ba x from Ti.o).set2 m (x.alive+n))
  . exact aC Qw.o (jN _ ba 0 1 _ _)
  have h:=Ye.o.2
  rw[Ye.o.1,zN zo] at h;exact h
 omega):p:=h
variable {w w':ω} {v:Value} {s:η} {ba f:Nat} {x:vD} {T:dX} {oi:Oper} {d:Array Bool} {a:Act}
def zeW (w:ω) (v:Value) (s:η):Prop:=
 (v=τ none 0 0/\s.size=0)\/∃ g off cap,v=τ (some ⟨g,off,none⟩) s.size cap/\s.size<=cap/\g<w.heap.size/\∀ i,i<s.size->w.v g (off+i) (.int .u8 (bL s i))
theorem zeW.kept (h:zeW w v s) (hs:w.heap.size<=w'.heap.size) (hx:∀ g,β v=some g->w'.e w g):zeW w' v s:=by
 rcases h with h|⟨g,off,cap,rfl,h1,h2,h3⟩
 . exact .inl h
 refine .inr ⟨g,off,cap,rfl,h1,zLd h2 hs,λi hi=> ?_⟩
 rw[<-h3 i hi];unfold World.cell?;rw[hx g rfl]
def ScAt (w:ω) (bs bt:Nat) (rd:Value) (C:Nat) (bv why err:Value) (aQ line col:Int):Prop:=
 w.h bs #[aF bt,rd,ι C,bv,why,err,ι aQ,ι line,ι col] 125
def iZ (w:ω) (ba:Nat) (x:vD):Prop:=w.h ba #[ι x.set,ι x.alive,ι x.long,ι x.rU] 127
theorem iZ.cells (h:iZ w ba x):w.i ba 0 x.set/\w.i ba 1 x.alive/\w.i ba 2 x.long/\w.i ba 3 x.rU:=by
 have:=bF w ba 0 _ _ _ h;have:=bF w ba 1 _ _ _ h;have:=bF w ba 2 _ _ _ h;have:=bF w ba 3 _ _ _ h
 grind
theorem gM.grown {B:Nat} {bt:Nat} {bc cc br cr bg cg:Nat} (h:gM B w bt T bc cc br cr bg cg) (hg:w.g w' ba) (hB:B<=ba) (hw:B<=w.t):gM B w' bt T bc cc br cr bg cg:=
 h.below ⟨hg.os,hg.tape,hg.output,hg.size,λb hb=>hg.block b zo (λe=>zg)⟩
theorem hd_of {g off:Nat} {p:Nat} (h:∀ i,i<s.size->w.v g (off+i) (.int .u8 (bL s i))) (hp:p<s.size) (hg:g<w.t):Hd3 w g (off+p) (s.size-p) (bL s p) (bL s (p+1)) (bL s (p+2)):=
 ⟨h p hp,λh1=>zg,λh2=>zg,eB _ _,eB _ _,eB _ _⟩
def qH (w:ω) (v:Value) (s:η):Prop:=
 (v=ν/\s.size=0)\/∃ g off cap cells,v=τ (some (g.p off)) s.size cap/\s.size<=cap/\w.h g cells 5/\off+cap<=cells.size/\∀ i,i<s.size->cells[off+i]?=some (.int .u8 (bL s i))
theorem qH.is (h:qH w v s):zeW w v s:=by
 rcases h with h|⟨g,off,cap,cells,h1,h2,h3,h4,h5⟩
 . exact .inl h
 exact .inr ⟨g,off,cap,h1,h2,aA h3,λi hi=>by grind [bF]⟩
theorem qH.kept (h:qH w v s) (hx:∀ g,β v=some g->w'.e w g):qH w' v s:=by
 rcases h with h|⟨g,off,cap,cells,rfl,h2,h3,h4,h5⟩
 . exact .inl h
 exact .inr ⟨g,off,cap,cells,rfl,h2,(hx g rfl).trans h3,h4,h5⟩
theorem qH.lt (h:qH w v s):∀ g,β v=some g->g<w.t:=by
 rcases h with⟨rfl,_⟩|⟨g,off,cap,cells,rfl,h2,h3,h4,h5⟩
 . intro g hg;cases hg
 intro g' hg;cases hg;grind
def fF (t:η):ζ:=t.data.toList.map λb=>Value.int .u8 b.toNat
theorem nJ (t:η):I (fF t)=t.size:=by simp[fF]
theorem xI (t:η) (j:Nat) (h:j<t.size):(fF t)[j]?=some (.int .u8 (bL t j)):=by
 simp_all[fF,bL,ByteArray.get!]
theorem byt_app (s t:η) (i:Nat):bL (s++t) i=if i<s.size then bL s i else bL t (i-s.size):=by
 unfold bL;simp only[ByteArray.get!,ByteArray.data_append];rw[getElem!_def,getElem!_def,getElem!_def,Array.getElem?_append];have:s.data.size=s.size:=rfl
 grind
theorem za8 (s t:η):(s++t).size=s.size+t.size:=ByteArray.size_append
theorem zht:eO prog 40 5 1 1:=eO.of (z:=.int .u8 0) underlying40 zK rfl zd
theorem zdd (w:ω) (ty:TypeId) (v:Value) (s t:η) (h:qH w v s) (ad:Addr) (c:Nat) (hnews:∀ j,j<t.size->w.cell? (ad.add j)=some (.int .u8 (bL t j))) (hb:s.size+t.size<=1000000000):
 ∃ v' w',(Builtin.append_ #[40,40] ty #[v,τ (some ad) t.size c]).run prog w=.ok v' w'/\qH w' v' (s++t)/\w.grownBy w' (β v)/\(∀ g,β v'=some g->β v=some g\/w.t<=g):=by
 obtain⟨ht,⟨i,z,hi,hz,Yk,x8,CC⟩,yp⟩:=zht;have T1:∀ (j:Nat) (u:Value),(fF t)[j]?=some u->w.cell? (ad.add j)=some u:=λj u hu=>by
  grind [nJ,xI]
 have h1:∀ u∈fF t,u.oneCell'=true:=λu hu=>by
  exact zzDF
 have:∀ (v':Value) (w':ω),w'.ownsRow w.t 5 1 v' (s.size+t.size) (fF s++fF t)->w.grownBy w' none->0<s.size+t.size->qH w' v' (s++t)/\w.grownBy w' (β v)/\(∀ g,β v'=some g->β v=some g\/w.t<=g):=by
  intro v' w' Hb Qm hp
  rcases Hb.2 with⟨_,h0⟩|⟨g,cap,X0,rfl,hbase,hg,hn,hmx,YA,XV⟩
  . omega
  refine⟨.inr ⟨g,0,cap,X0,zs,zg,hg,zo,λi hi=> ?_⟩,⟨Qm.os,Qm.tape,Qm.output,Qm.size,λk hk _=>Qm.block k hk zs⟩,λg' QY=>by cases QY;grind⟩
  rw[za8] at hi;have e:X0.toList[i]?=(fF s++fF t)[i]?:=by
   rw[<-XV,List.getElem?_take,zP zo]
  grind [byt_app,nJ,xI]
 have lt':I (fF t)=t.size*1:=by rw[nJ,Nat.mul_one]
 have ls':I (fF s)=s.size*1:=by rw[nJ,Nat.mul_one]
 have hmx:s.size+t.size<=maxLen:=by unfold maxLen;omega
 rcases h with⟨rfl,h0⟩|⟨g,off,cap,cells,rfl,qo,hg,YA,J8⟩
 . rcases Nat.eq_zero_or_pos t.size with ht0|ht0
   . refine⟨ν,w,?_,.inl ⟨rfl,zg⟩,eN _ _,λg hg=>.inl hg⟩
     have hf:=run_firstCells_some (P:=prog) w 1 0 ad 0 c [] rfl zs;rw[ht0];simp[Builtin.append_,run_underlying ht,sizeOf,typeInfo,hi,Builtin.lenOf,Yk,hf,Result.andThen]
   have es:fF s=[]:=List.eq_nil_of_length_eq_zero zo
   obtain⟨v',w',hr,h2,h3,h4⟩:=qE (P:=prog) w zht ty ν 0 [] (World.ownsRow_nil w 0 _ _) ad t.size c (fF t) lt' T1 h1 ht0 zo zd;have:w'.ownsRow w.t 5 1 v' (s.size+t.size) (fF s++fF t):=by
    rw[h0,es];refine⟨h2.1,?_⟩
    rcases h2.2 with⟨e,h0'⟩|⟨g,cap,X0,rfl,hbase,hg,hn,hmx',YA,XV⟩
    . omega
    refine .inr ⟨g,cap,X0,rfl,?_,hg,hn,hmx',YA,XV⟩
    rcases h4 with e|e
    . cases e
    cases e;simp
   have:w.grownBy w' none:=h3
   grind
 have:∀ j,w.cell? (g.p j)=cells[j]?:=λj=>bF w g j _ _ _ hg
 by_cases Yu:s.size+t.size<=cap
 . have AI:∀ j,j<I (fF t)->(w.cell? (g.p (off+s.size*i.size+j))).isSome=true:=λj hj=>by
    grind
   have xv:∀ j,j<I (fF t)->w.q g (off+s.size*i.size+j):=λj hj=>bN w g _ _ _ hg;have hr:=run_append_room_cells (P:=prog) w 40 ty 5 i ht hi g off s.size cap ad t.size c (fF t) zg T1 h1 Yu AI xv;obtain⟨⟨c',k1,k2,k3⟩,k4⟩:=rK g (fF t) (off+s.size*i.size) w cells 5 hg;refine⟨_,_,hr,.inr ⟨g,off,cap,c',zs,zg,k1,zo,λq hq=> ?_⟩,k4,λg' QY=>.inl QY⟩;rw[za8] at hq;rw[byt_app];by_cases Dr:q<s.size
   . grind
   rw[zN Dr]
   have:=World.cell?_setCells_in g (fF t) (off+s.size*i.size) w AI (q-s.size) zo
   grind [bF]
 obtain⟨v',w',hr,r1,r2⟩:=run_append_arg_grows (P:=prog) w 40 ty 5 i z 1 1 ht hi hz Yk x8 CC zd (g.p off) s.size cap (fF s) ls' (λj u hu=>by
  grind [xI,Addr.add_lit]) ad t.size c (fF t) lt' T1 zo hmx zo
 grind
theorem oH {w2:ω} (h:w.g w' ba) (hb:w'.u w2):w.g w2 ba:=
 ⟨hb.os.trans h.os,hb.tape.trans h.tape,hb.output.trans h.output,zT h.size hb.size,λb Hf qg=>(hb.block b (zLd Hf h.size)).trans (h.block b Hf qg)⟩
structure RnSt (T:dX) (s:η) (F:Nat) (x0:vD) (w:ω) (ba:Nat) (x:vD) (wr:ω):Prop where
 aQ:iZ wr ba x
 grown:w.g wr ba
 rest:∃ f,s.size<f+x.alive/\dK T s f x=dK T s F x0
 le:x.alive<=s.size
 set:x.set<I T.gO
theorem ext_size (s:η) (p:Nat) (hp:p<=s.size):(ε s p s.size).size=s.size-p:=by simp
theorem zdo (s:η) (p g off cap:Nat) (w:ω) (hp:p<s.size) (hT:oK w) (hb:∀ i,i<s.size->w.v g (off+i) (.int .u8 (bL s i))):
 Γ 47 #[τ (some (g.p (off+p))) (s.size-p) (cap-p)] w λe w'=>e=ρ (ϕ #[ξ (δ s p).1,ι (δ s p).2])/\w.u w':=by
 have he:=ext_size s p zo;have h:=zdb (ε s p s.size) g (off+p) (cap-p) w hT (λj hj=>by
  rw[zgw];have:=hb (p+j) zo;rw[Nat.add_assoc];exact this)
 rw[he] at h;have e:Lib.decodeGo (ε s p s.size)=δ s p:=by
  unfold Lib.decodeGo;rw[zN zo,nM]
 rw[e] at h;exact h
theorem rV {F:Nat} {x0:vD} (h:∃ f,s.size<f+x.alive/\dK T s f x=dK T s F x0) (hg:dC T s x.set x.alive=false):dK T s F x0=x:=by
 grind [za4]
theorem zhK {R set:Nat} {c:Int} (hT:yV T R) (h:0<=fQ T set c):(fQ T set c).toNat<I T.gO:=by
 unfold fQ at h ⊢;obtain⟨h1,h2⟩:=zgX h;have:=(hT.cells _ h1 (χ (χ T.gO set []) (nL T.cU c) (-1)) (by
  grind)).2
 omega
theorem iZ.set2 (h:iZ w ba x) (a b:Nat):iZ (ς (ς w ba.a (ι a)) (ba.p 1) (ι b)) ba ⟨a,b,x.long,x.rU⟩:=by
 unfold iZ;rw[aB _ ba 1 _ _ _ _ (aB w ba 0 _ _ _ _ h)];rfl
theorem iZ.set4 (h:iZ w ba x) (b:Nat) (r:Int):iZ (ς (ς w (ba.p 2) (ι b)) (ba.p 3) (ι r)) ba ⟨x.set,x.alive,b,r⟩:=by
 unfold iZ;rw[aB _ ba 3 _ _ _ _ (aB w ba 2 _ _ _ _ h)];rfl
theorem run_any (T:dX) (R:Nat) (hT:yV T R) (s:η) (hs:s.size<1000000) (F:Nat) (x0:vD) (w:ω) (B bs bt bc cc br cr bg cg ba:Nat) (rd bv why err:Value) (C:Nat) (aQ line col:Int)
 (hSc:ScAt w bs bt rd C bv why err aQ line col) (hBuf:zeW w bv s) (Q8:gM B w bt T bc cc br cr bg cg) (hTabs:oK w) (hG:jV<=B) (hB:B<=w.t) (YV:B<=ba) (qg:bs≠ba) (MO:β bv≠some ba)
 (hR:iZ w ba x0) (qo:x0.alive<=s.size) (Ht:x0.set<I T.gO) (hF:s.size<F+x0.alive):
 Γ 42 #[aF bs,aF ba] w λe w'=>e=ρ (ϕ #[])/\iZ w' ba (dK T s F x0)/\w.g w' ba:=by
 have Hh:RnSt T s F x0 w ba x0 w:=⟨hR,eN _ _,⟨F,hF,rfl⟩,qo,Ht⟩;have Hl:=zh Hh;have Vk:=Ψ hSc hBuf Q8 hTabs;have HT:=zh hT;have uv:=Θ qg MO;clear Hh hSc hBuf Q8 hTabs hR hT hF qo Ht;go_in;go_wp2;go_loopg [4] (s.size-x0.alive) (λgh o4 wr=>∃ x:vD,x.alive+gh=s.size/\RnSt T s F x0 w ba x wr)
 case atStart=>exact⟨x0,by have:=Hl.o.le;omega,Hl.o⟩
 case round=>
  obtain⟨x,hxg,hS⟩:=hrel;have Qm:=hS.grown;have MM:bs<w.t:=aA Vk.o.1;have Yd:ScAt wr bs bt rd C bv why err aQ line col:=(Qm.block bs MM (λe=>uv.o.1 zzCR)).trans Vk.o.1;have Gu:zeW wr bv s:=Vk.o.2.1.kept Qm.size (λg hg=>Qm.block g (by
   rcases Vk.o.2.1 with⟨e,_⟩|⟨g',off,cap,e,_,hl,_⟩
   . rw[e] at hg;cases hg
   rw[e] at hg;cases hg;exact hl) (λe=>uv.o.2 zzCj))
  have ND:=Vk.o.2.2.1.grown Qm YV hB;have fd:oK wr:=zbz Vk.o.2.2.2 (λa ha=>by
   have hk:=Qm.block a.block zo (λe=>by cases e;omega);unfold World.cell?;rw[hk])
  obtain⟨c0,c1,c2,c3⟩:=hS.aQ.cells;have s0:=zq 0 Yd;have s3:=zq 3 Yd;have lbs:=aA Yd;have lba:=aA hS.aQ;have HS:=zh hS;have HB:=Θ ND fd;clear hS Qm Yd MM ND fd
  rcases Gu with⟨rfl,h0⟩|⟨g,off,cap,rfl,Xi,xh,Db⟩
  . have ha:x.alive=s.size:=by have:=HS.o.le;omega
    have Qg:dC T s x.set x.alive=false:=by simp[dC,ha]
    have Hg:=rV HS.o.rest Qg;have HF:=Λ Hg HS.o.aQ HS.o.grown;have hz:¬ (x.alive:Int)<(0:Int):=zo
    exact zzCF
  by_cases Hf:x.alive<s.size
  . have hz:=zt x.alive s.size
    have:=zu x.alive s.size
    have NZ:=zh Db;clear Db;have CD:=zh (hd_of NZ.o Hf xh);go_wp2;go_quiet (fail);go_wp2;go_quiet (fail);go_wp2_with fail;refine (zee g (off+x.alive) (s.size-x.alive) (cap-x.alive) (bL s x.alive) (bL s (x.alive+1)) (bL s (x.alive+2)) _ (by exact HB.o.2) (by exact⟨CD.o.c0,CD.o.c1,CD.o.c2,CD.o.l0,CD.o.l1,CD.o.l2⟩) zo zo).mono ?_;rintro e w3 ⟨rfl,ce⟩;have Hu:wr.u w3:=⟨ce.os,ce.tape,ce.output,ce.size,ce.block⟩;clear ce
    have X9:=oH HS.o.grown Hu;have Gb:iZ w3 ba x:=(Hu.block ba lba).trans HS.o.aQ;have ol:fG (s.size-x.alive) (bL s x.alive) (bL s (x.alive+1)) (bL s (x.alive+2))=fY s x.alive:=rfl;rw[ol];clear ol;cases ED:fY s x.alive with
    | false=>
     have Qg:dC T s x.set x.alive=false:=by simp[dC,ED]
     have Hg:=rV HS.o.rest Qg;have HF:=Λ Hg Gb X9;clear Hg Qg ED Gb X9;exact zzDY
    | true=>
     have HFP:=zh ED;have YO:=zdo s x.alive g off cap w3 Hf (fD HB.o.2 Hu zo) (λi hi=>(aG Hu (g.p (off+i)) xh).trans (NZ.o i hi));obtain⟨c,n,Vo⟩:∃ c n,δ s x.alive=(c,n):=⟨_,_,rfl⟩;rw[Vo] at YO;have BR:=zh YO;have Aa:=zh Vo;clear YO Vo ED X9 Gb;go_wp2_with fail;refine BR.o.mono ?_;rintro e w4 ⟨rfl,Jg⟩;have qu:wr.u w4:=Hu.trans ⟨Jg.os,Jg.tape,Jg.output,Jg.size,λb hb=>Jg.block b (zLd hb Hu.size)⟩
     have yg:=zh qu;clear Hu Jg qu;by_cases Qt:c=65533/\n=1
     . have Qg:dC T s x.set x.alive=false:=by simp[dC,Aa.o,Qt]
       have Hg:=rV HS.o.rest Qg;have vw:iZ w4 ba x:=(yg.o.block ba lba).trans HS.o.aQ;have HF:=Λ Hg vw (oH HS.o.grown yg.o);obtain⟨Hk,Hm⟩:=Qt;have ax:(c:Int)=65533:=zo
       have Pq:(n:Int)=1:=zo
       clear Hg Qg vw Hk Hm;exact zzDY
     have BK:=zh Qt
     by_cases Sy:c=65533
     . have ax:(c:Int)=65533:=zo
       have Pq:¬ (n:Int)=1:=zo
       clear Qt Sy;have PV:∀ r,fQ T x.set c=r->r<0->dK T s F x0=x:=λr hr h=>rV HS.o.rest (by
        have h':¬ 0<=fQ T x.set c:=zo
        simp[dC,Aa.o,h'])
       have Qg:∀ r,fQ T x.set c=r->0<=r->dC T s x.set x.alive=true:=λr hr h=>by
        exact zzBQ
       have D0:=Θ PV Qg;have vw:iZ w4 ba x:=(yg.o.block ba lba).trans HS.o.aQ;have k0:w4.v bs 0 (aF bt):=(aG yg.o bs.a lbs).trans s0;obtain⟨d0,d1,d2,d3⟩:=vw.cells;have fz:∀ o,w4.q ba o:=λo=>bN _ _ o _ _ vw;have fz0:=fz 0;have fz1:=fz 1;have fz2:=fz 2;have fz3:=fz 3;have lba4:=aA vw;have ji:=HB.o.1.below (zak yg.o zo);obtain⟨r,hr⟩:∃ r,fQ T x.set c=r:=⟨_,rfl⟩
       have Xw:∀ k,Γ 85 #[π bt,ι x.set,ξ 65533] (w4.drewN k) λe w2=>e=ρ (ι r)/\w2=w4.drewN k:=λk=>by
        have h2:=zhL B bt bc cc br cr bg cg x.set T R c (w4.drewN k) (ji.below (aK (zBr B w4) k)) HT.o HS.o.set zo;rw[hr,ax] at h2;exact h2.mono λ_ _ h=>⟨h.1,h.2.symm⟩
       exact zzAB
     have ax:¬ (c:Int)=65533:=zo
     clear Qt Sy;have PV:∀ r,fQ T x.set c=r->r<0->dK T s F x0=x:=λr hr h=>rV HS.o.rest (by
      have h':¬ 0<=fQ T x.set c:=zo
      simp[dC,Aa.o,h'])
     have Qg:∀ r,fQ T x.set c=r->0<=r->dC T s x.set x.alive=true:=λr hr h=>by
      exact zzBQ
     have D0:=Θ PV Qg;have vw:iZ w4 ba x:=(yg.o.block ba lba).trans HS.o.aQ;have k0:w4.v bs 0 (aF bt):=(aG yg.o bs.a lbs).trans s0;obtain⟨d0,d1,d2,d3⟩:=vw.cells;have fz:∀ o,w4.q ba o:=λo=>bN _ _ o _ _ vw;have fz0:=fz 0;have fz1:=fz 1;have fz2:=fz 2;have fz3:=fz 3;have lba4:=aA vw;have ji:=HB.o.1.below (zak yg.o zo);obtain⟨r,hr⟩:∃ r,fQ T x.set c=r:=⟨_,rfl⟩
     have Xw:∀ k,Γ 85 #[π bt,ι x.set,ξ c] (w4.drewN k) λe w2=>e=ρ (ι r)/\w2=w4.drewN k:=λk=>by
      have h2:=zhL B bt bc cc br cr bg cg x.set T R c (w4.drewN k) (ji.below (aK (zBr B w4) k)) HT.o HS.o.set zo;rw[hr] at h2;exact h2.mono λ_ _ h=>⟨h.1,h.2.symm⟩
     exact zzAB
  have ha:x.alive=s.size:=by have:=HS.o.le;omega
  have Qg:dC T s x.set x.alive=false:=by simp[dC,ha]
  have Hg:=rV HS.o.rest Qg;have HF:=Λ Hg HS.o.aQ HS.o.grown;have hz:=zn x.alive s.size
  exact zzCF
section
variable {P:Program} {ops:Array Oper} {Q:Exit->Act->World->Prop} {md:Region.Mode} {S:World->Prop}
theorem zcj (i:Nat) (hi:ops.toList[i]?=some oi) (hs:Region.noSelect ops=true) (hf:Region.free md ops d i=true)
 (hr:(Region.ready md ops d).contains i=true) (hQ:∀ c a w,Q (.panic c) (a.put oi.dst v) w->Q (.panic c) a w) (hg:Region.wanted oi (yielded ops a.tmps)=true)
 (hy:∀ w,S w->(execOp a.eval oi).run P w=.ok (.value v) w) (hS:S w) (h:wpAnyH P md ops Q S f (d.setIfInBounds i true) (a.put oi.dst v) w):wpAnyH P md ops Q S (f+1) d a w:=
 wpAnyH_take zg hs hf hr hQ (.inl ⟨hg,hy⟩) hS h
theorem jB (i:Nat) (hi:ops.toList[i]?=some oi) (hs:Region.noSelect ops=true) (hf:Region.free md ops d i=true)
 (hr:(Region.ready md ops d).contains i=true) (hQ:∀ c a w,Q (.panic c) (a.put oi.dst undef) w->Q (.panic c) a w) (hg:Region.wanted oi (yielded ops a.tmps)=false)
 (hS:S w) (h:wpAnyH P md ops Q S f (d.setIfInBounds i true) (a.put oi.dst undef) w):wpAnyH P md ops Q S (f+1) d a w:=
 wpAnyH_take zg hs hf hr hQ (.inr ⟨hg,rfl⟩) hS h
theorem sF (i:Nat) (hS:S w) (hy:∀ w,S w->(execOp a.eval oi).run P w=.ok (.value v) w) (h:wpAnyH P md ops Q S f (d.setIfInBounds i true) (a.put oi.dst v) w)
 (hi:ops.toList[i]?=some oi:=by rfl) (hs:Region.noSelect ops=true:=by kernel_rfl) (hf:Region.free md ops d i=true:=by kernel_rfl) (hr:(Region.ready md ops d).contains i=true:=by kernel_rfl)
 (hQ:∀ c a w,Q (.panic c) (a.put oi.dst v) w->Q (.panic c) a w:=by exact λ_ _ _ h=>h) (hg:Region.wanted oi (yielded ops a.tmps)=true:=by rfl):wpAnyH P md ops Q S (f+1) d a w:=
 zcj i hi hs hf hr hQ hg hy hS h
theorem cY (i:Nat) {d':Array Bool} {a':Act} (hS:S w) (h:wpAnyH P md ops Q S f d' a' w)
 (hi:ops.toList[i]?=some oi:=by rfl) (hs:Region.noSelect ops=true:=by kernel_rfl) (hf:Region.free md ops d i=true:=by kernel_rfl) (hr:(Region.ready md ops d).contains i=true:=by kernel_rfl)
 (hy:∀ w,S w->(execOp a.eval oi).run P w=.ok (.value v) w:=by (intro w9 Pb;(try dsimp only at Pb);go_simp;(try with_reducible rfl)))
 (ha:a.put oi.dst v=a':=by ((try simp only[Act.put,lA,lB,lC]);rfl)) (hd:d.setIfInBounds i true=d':=by ((try simp only[lA,lB,lC]);rfl)) (hQ:∀ c a w,Q (.panic c) (a.put oi.dst v) w->Q (.panic c) a w:=by exact λ_ _ _ h=>h) (hg:Region.wanted oi (yielded ops a.tmps)=true:=by rfl):wpAnyH P md ops Q S (f+1) d a w:=by
 subst ha;subst hd;exact zcj i hi hs hf hr hQ hg hy hS h
theorem held_step (i:Nat) (hi:ops.toList[i]?=some oi) (hr:Region.ready md ops d=[i])
 (h:∀ K:Act->World->Prop,Shut (∀ a' w',S w'->(S w'->wpAnyH P md ops Q S f (d.setIfInBounds i true) a' w')->K a' w')->if Region.wanted oi (yielded ops a.tmps)=true then Oper.wp P oi a w K Q else K (a.put oi.dst undef) w):
 wpAnyH P md ops Q S (f+1) d a w:=
 wpAnyH_ready hr zs (AllReadyH.cons zg h AllReadyH.nil)
theorem uY (i:Nat) 
 (h:∀ K:Act->World->Prop,Shut (∀ a' w',S w'->(S w'->wpAnyH P md ops Q S f (d.setIfInBounds i true) a' w')->K a' w')->if Region.wanted oi (yielded ops a.tmps)=true then Oper.wp P oi a w K Q else K (a.put oi.dst undef) w) (hi:ops.toList[i]?=some oi:=by rfl) (hr:Region.ready md ops d=[i]:=by kernel_rfl):wpAnyH P md ops Q S (f+1) d a w:=held_step i hi hr h
end
theorem ziv {b:Nat} (h:b<256):firstT b%8<=eX b/\firstT b%8<=4:=by
 unfold eX
 rcases jF b h with h|h|h|h|h|h|h|h|h|h<;>split<;>(first|omega|(split<;>omega))
theorem zhN {n b0 b1 b2:Nat} (h:fG n b0 b1 b2=false) (hn:0<n) (hb:b0<256):n<eX b0/\n<=3:=by
 grind [ziv,fG]
theorem zeD (T:dX) (set m b0 b1 b2 k:Nat) (hk:k<=3) (h:∀ j,1<=j->j<=k->gK T set j m b0 b1 b2=true) (hx:k<3->gK T set (k+1) m b0 b1 b2=false):lZ T set m b0 b1 b2=k:=by
 grind [lZ]
structure PtSt (T:dX) (set m b0 b1 b2:Nat) (w1:ω) (k:Nat) (wr:ω):Prop where
 below:w1.u wr
 le:k<=3
 ok:∀ j,1<=j->j<=k->gK T set j m b0 b1 b2=true
theorem part_any (T:dX) (R:Nat) (hT:yV T R) (s:η) (hs:s.size<1000000) (x:vD) (w:ω) (B bs bt bc cc br cr bg cg:Nat) (rd bv why err:Value) (C:Nat) (aQ line col:Int)
 (hSc:ScAt w bs bt rd C bv why err aQ line col) (hBuf:zeW w bv s) (Q8:gM B w bt T bc cc br cr bg cg) (hTabs:oK w) (hG:jV<=B) (hB:B<=w.t)
 (qo:x.alive<=s.size) (Ht:x.set<I T.gO):
 Γ 43 #[aF bs,.agg #[ι x.set,ι x.alive,ι x.long,ι x.rU]] w λe w'=>e=ρ (ι (qT T s x.set x.alive))/\w.u w':=by
 have s3:=zq 3 hSc;have s0:=zq 0 hSc;have lbs:=aA hSc;have Vk:=Ψ hSc hBuf Q8 hTabs;have HT:=zh hT;clear hSc hBuf Q8 hTabs hT;go_in;go_wp2;have js:iZ (κ w (Ω #[ι x.set,ι x.alive,ι x.long,ι x.rU] 127)) w.t x:=bA _ _ _ rfl
 have Hk:w.u (κ w (Ω #[ι x.set,ι x.alive,ι x.long,ι x.rU] 127)):=Ξ w _;generalize w.alloc (Ω #[ι x.set,ι x.alive,ι x.long,ι x.rU] 127)=w1 at*;have lW:w.heap.size<w1.heap.size:=aA js;have lbs1:bs<w1.t:=zo
 have c0:=(aG Hk bs.a lbs).trans s0;have c3:=(aG Hk (bs.p 3) lbs).trans s3;obtain⟨d0,d1,_,_⟩:=js.cells;have XW:=zh Hk;have Gu:=Vk.o.2.1;clear s0 s3 js Hk
 rcases Gu with⟨rfl,h0⟩|⟨g,off,cap,rfl,Xi,xh,Db⟩
 . obtain⟨xs,xa,xl,xr⟩:=x
   simp only at*;obtain rfl:xa=0:=by omega
   have hz:¬ (1:Int)<=(0:Int):=zo
   have Hg:qT T s xs 0=0:=by
    unfold qT lZ;have:gK T xs 1 (s.size-0) (bL s 0) (bL s (0+1)) (bL s (0+2))=false:=by simp[gK,h0]
    rw[this];rfl
   have HF:=zh Hg;clear Hg;go_quiet (fail);go_wp2;go_loopg [6,7] 0 (λgh o6 o7 wr=>o6=ι 0/\o7=ι 1/\w.u wr)
   case atStart=>exact⟨rfl,rfl,aK XW.o _⟩
   case round=>
    obtain⟨rfl,rfl,hb⟩:=hrel;go_wp2;go_quiet (fail);go_wp2;refine bodyPost_ret (v:=ι 0) zzBo rfl ⟨?_,aK hb _⟩;rw[HF.o];rfl
 have Kf:=zu x.alive s.size
 have NZ:=zh Db;clear Db;by_cases Hf:x.alive<s.size
 . have Vo:¬ cap=x.alive:=zo
   go_quiet (fail);go_wp2_with fail;obtain⟨m,hm⟩:=zE (s.size-x.alive);obtain⟨q,hq⟩:=zE (off+x.alive);obtain⟨cq,CO⟩:=zE (cap-x.alive);rw[<-hm,<-hq,<-CO];have Hg:∀ k,lZ T x.set m (bL s x.alive) (bL s (x.alive+1)) (bL s (x.alive+2))=k->qT T s x.set x.alive=k:=λk h=>by
    rw[hm] at h;exact h
   have Q3:=zh Hg;have HM:=Λ hm hq CO;have hmc:m<=cq:=zo
   have hm6:m<1000000:=zo
   clear Hg hm hq CO;go_loopg [6,7] 3 (λgh o6 o7 wr=>∃ k n:Nat,o6=ι k/\o7=ι n/\n=k+1/\k+gh=3/\PtSt T x.set m (bL s x.alive) (bL s (x.alive+1)) (bL s (x.alive+2)) w1 k wr)
   case atStart=>exact⟨0,1,rfl,rfl,rfl,rfl,⟨aK (zBr _ w1) _,zo,λj h1 h2=>zo⟩⟩
   case round=>
    obtain⟨k,n,rfl,rfl,EP,hkg,hP⟩:=hrel;have HP:=zh hP;clear hP;by_cases pg:n<=m
    . have hz:=zu n m
      have hz2c:=zu n cq
      have QR:IntKind.i64.wrap ((n:Int)+1)=((n+1:Nat):Int):=by rw[lM];omega
      have tZ:=hd_of NZ.o Hf xh;rw[<-HM.o.1,<-HM.o.2.1] at tZ;have V6:∀ wx,w1.u wx->∀ o,wx.cell? (g.p o)=w.cell? (g.p o):=λwx Yp o=>
       (aG Yp (g.p o) (by show g<_;omega)).trans (aG XW.o (g.p o) xh)
      have Va:∀ wx,w1.u wx->Γ 45 #[τ (some (g.p q)) n cq] wx λe w'=>e=ρ (φ (fG n (bL s x.alive) (bL s (x.alive+1)) (bL s (x.alive+2))))/\w1.u w':=λwx Yp=>
       (zee g q n cq _ _ _ wx (fD (fD Vk.o.2.2.2 XW.o zo) Yp zo) ⟨(V6 wx Yp _).trans tZ.c0,λh=>(V6 wx Yp _).trans (tZ.c1 zo),λh=>(V6 wx Yp _).trans (tZ.c2 zo),tZ.l0,tZ.l1,tZ.l2⟩ zo zo).mono
        λe w' h=>⟨h.1,Yp.trans (h.2.mono Yp.size)⟩
      have Gp:∀ wx,w1.u wx->fG n (bL s x.alive) (bL s (x.alive+1)) (bL s (x.alive+2))=false->Γ 86 #[π bt,ι x.set,τ (some (g.p q)) n cq] wx λe w'=>e=ρ (φ (mH T x.set n (bL s x.alive) (bL s (x.alive+1)) (bL s (x.alive+2))))/\w1.u w':=λwx Yp SK=>by
       have YS:=zhN SK zo tZ.l0;exact (zik B bt bc cc br cr bg cg x.set g q n cq _ _ _ T R wx (Vk.o.2.2.1.below ((XW.o.mono hB).trans (Yp.mono zo))) HT.o Ht
        ⟨(V6 wx Yp _).trans tZ.c0,λh=>(V6 wx Yp _).trans (tZ.c1 zo),λh=>(V6 wx Yp _).trans (tZ.c2 zo),tZ.l0,tZ.l1,tZ.l2,zo,YS.2⟩ zo YS.1 (by have:=Yp.size;omega)).mono
        λe w' h=>⟨h.1,Yp.trans (h.2.mono Yp.size)⟩
      have YK:=HP.o.below;have qz:=zh YK;have QZ:=tZ.l0;clear YK V6 tZ;have Kb:∀ wx,w1.u wx->w1.u wx/\wx.v bs 0 (aF bt)/\wx.i w.t 0 x.set:=λwx Yp=>⟨Yp,(aG Yp bs.a lbs1).trans c0,(aG Yp w.z lW).trans d0⟩;have YZ:=zh Kb;clear Kb c0 c3 d0 d1;cases X7:fG n (bL s x.alive) (bL s (x.alive+1)) (bL s (x.alive+2)) with
      | true=>
       rw[X7] at Va;have x9:=zh Va;have qy:lZ T x.set m (bL s x.alive) (bL s (x.alive+1)) (bL s (x.alive+2))=k:=zeD _ _ _ _ _ _ _ HP.o.le HP.o.ok (λ_=>by rw[<-EP];simp[gK,X7]);have QM:=zh (Q3.o k qy);clear qy Va Gp X7 QZ EP;go_wp2_with fail;go_upto_region 4 with fail
       refine zzAl ?_;refine wp_region_held_drew (S:=λw'=>w1.u w') zr qz.o.drew (λHc=> ?_);refine sF 0 Hc ?_ ?_ (v:= ?_);rotate_left
       . exact zzAb
       refine zzAF ?_;refine sF 1 Hc ?_ ?_ (v:= ?_);rotate_left
       . exact zzAb
       refine zzAF ?_;refine sF 2 Hc ?_ ?_ (v:= ?_);rotate_left
       . exact zzAb
       refine zzAF ?_;refine sF 3 Hc ?_ ?_ (v:= ?_);rotate_left
       . exact zzAb
       refine zzAF ?_;refine sF 4 Hc ?_ ?_ (v:= ?_);rotate_left
       . exact zzAb
       refine zzAF ?_;refine sF 5 Hc ?_ ?_ (v:= ?_);rotate_left
       . exact zzAb
       refine zzAF ?_;refine sF 6 Hc ?_ ?_ (v:= ?_);rotate_left
       . exact zzAb
       refine zzAF ?_;refine sF 7 Hc ?_ ?_ (v:= ?_);rotate_left
       . exact zzAb
       refine zzAF ?_;refine uY 8 (λK hK=> ?_);go_simp;go_at_call 45;refine (x9.o _ (by exact Hc)).mono ?_;rintro e w2 ⟨rfl,Hm⟩;refine hK.out _ _ Hm (λyy=> ?_);clear hK K Hc;have Hc:=yy;clear yy;refine zzAF ?_;refine sF 9 Hc ?_ ?_ (v:= ?_);rotate_left
       . exact zzAb
       refine zzAF ?_;refine sF 10 Hc ?_ ?_ (v:= ?_);rotate_left
       . exact zzAb
       refine zzAF ?_;refine sF 11 Hc ?_ ?_ (v:= ?_);rotate_left
       . exact zzAb
       refine zzAF ?_;refine jB 12 zr zK zK zK (λ_ _ _ h=>h) zr Hc ?_;refine zzAF ?_;refine jB 13 zr zK zK zK (λ_ _ _ h=>h) zr Hc ?_;refine zzAF ?_;refine jB 14 zr zK zK zK (λ_ _ _ h=>h) zr Hc ?_;(try simp only[Act.put,lA,lB,lC])
       refine jB 15 zr zK zK zK (λ_ _ _ h=>h) zr Hc ?_;refine zzAF ?_;refine jB 16 zr zK zK zK (λ_ _ _ h=>h) zr Hc ?_;refine zzAF ?_;refine jB 17 zr zK zK zK (λ_ _ _ h=>h) zr Hc ?_;refine zzAF ?_;refine jB 18 zr zK zK zK (λ_ _ _ h=>h) zr Hc ?_
       refine zzAF ?_;refine jB 19 zr zK zK zK (λ_ _ _ h=>h) zr Hc ?_;refine zzAF ?_;refine jB 20 zr zK zK zK (λ_ _ _ h=>h) zr Hc ?_;refine zzAF ?_;refine jB 21 zr zK zK zK (λ_ _ _ h=>h) zr Hc ?_;(try simp only[Act.put,lA,lB,lC])
       refine zcj 22 (v:= ?_) zr zK zr zK (λ_ _ _ h=>h) zr ?_ Hc ?_;rotate_left
       . exact zzAb
       refine zzAF ?_;refine wpAnyH_done zr ?_ _;refine NoPanic.normal ?_;go_wp2_with fail;refine bodyPost_ret (v:=ι k) zzBo rfl ⟨?_,XW.o.trans (Hm.mono zo)⟩;rw[QM.o]
      | false=>
       have Jz:∀ wx,w1.u wx->Γ 86 #[π bt,ι x.set,τ (some (g.p q)) n cq] wx λe w'=>e=ρ (φ (mH T x.set n (bL s x.alive) (bL s (x.alive+1)) (bL s (x.alive+2))))/\w1.u w':=λwx Yp=>Gp wx Yp X7;have ke:=(zhN X7 zo QZ).2;rw[X7] at Va;have x9:=zh Va;clear Va Gp QZ;cases KO:mH T x.set n (bL s x.alive) (bL s (x.alive+1)) (bL s (x.alive+2)) with
       | false=>
        rw[KO] at Jz;have Fe:=zh Jz;have qy:lZ T x.set m (bL s x.alive) (bL s (x.alive+1)) (bL s (x.alive+2))=k:=zeD _ _ _ _ _ _ _ HP.o.le HP.o.ok (λ_=>by rw[<-EP];simp[gK,KO]);have QM:=zh (Q3.o k qy);clear qy Jz X7 KO EP;go_wp2_with fail;go_upto_region 4 with fail
        go_region_held3 (λw'=>w1.u w'/\w'.v bs 0 (aF bt)/\w'.i w.t 0 x.set) (first|exact YZ.o _ qz.o.drew|exact YZ.o _ (aK qz.o _)|exact YZ.o _ zzBx) (first|(go_at_call 45;refine (x9.o _ zzBb).mono ?_;rintro e w2 ⟨rfl,Hm⟩)|(go_at_call 86;refine (Fe.o _ zzBb).mono ?_;rintro e w3 ⟨rfl,Hu⟩));go_wp2_with fail
        refine bodyPost_ret (v:=ι k) zzBo rfl ⟨?_,XW.o.trans (Hu.mono zo)⟩;rw[QM.o]
       | true=>
        rw[KO] at Jz;have Fe:=zh Jz;have Hq:gK T x.set n m (bL s x.alive) (bL s (x.alive+1)) (bL s (x.alive+2))=true:=by simp[gK,X7,KO,pg]
        have QA:=Θ Hq EP;clear Hq Jz X7 KO EP;go_wp2_with fail;go_upto_region 4 with fail
        go_region_held3 (λw'=>w1.u w'/\w'.v bs 0 (aF bt)/\w'.i w.t 0 x.set) (first|exact YZ.o _ qz.o.drew|exact YZ.o _ (aK qz.o _)|exact YZ.o _ zzBx) (first|(go_at_call 45;refine (x9.o _ zzBb).mono ?_;rintro e w2 ⟨rfl,Hm⟩)|(go_at_call 86;refine (Fe.o _ zzBb).mono ?_;rintro e w3 ⟨rfl,Hu⟩));go_wp2
        go_roundg (gk-1)
        case rel=>
         have hnk':=QA.o.2;refine⟨n,n+1,rfl,rfl,rfl,zo,⟨Hu,ke,λj h1 h2=> ?_⟩⟩
         rcases zLg j n with h|h
         . exact HP.o.ok j h1 zo
         . obtain rfl:j=n:=by omega
           exact QA.o.1
        case measure=>have:=QA.o.2;omega
    have hz:¬ (n:Int)<=(m:Int):=zo
    have qy:lZ T x.set m (bL s x.alive) (bL s (x.alive+1)) (bL s (x.alive+2))=k:=zeD _ _ _ _ _ _ _ HP.o.le HP.o.ok (λ_=>by rw[<-EP];simp[gK,pg]);have QM:=zh (Q3.o k qy);clear qy EP;go_wp2;go_quiet (fail);go_wp2;refine bodyPost_ret (v:=ι k) zzBo rfl ⟨?_,XW.o.trans (aK (HP.o.below.mono zo) _)⟩;rw[QM.o]
 have hz:¬ (1:Int)<=(0:Int):=zo
 have hzero:s.size-x.alive=0:=zo
 have Hg:qT T s x.set x.alive=0:=by
  unfold qT lZ;have:gK T x.set 1 (s.size-x.alive) (bL s x.alive) (bL s (x.alive+1)) (bL s (x.alive+2))=false:=by simp[gK];omega
  rw[this];rfl
 have HF:=zh Hg;clear Hg;go_quiet (fail)
 all_goals go_wp2
 all_goals focus (
  go_loopg [6,7] 0 (λgh o6 o7 wr=>o6=ι 0/\o7=ι 1/\w.u wr)
  case atStart=>exact⟨rfl,rfl,aK XW.o _⟩
  case round=>
   obtain⟨rfl,rfl,hb⟩:=hrel;go_wp2;go_quiet (fail);go_wp2;refine bodyPost_ret (v:=ι 0) zzBo rfl ⟨?_,aK hb _⟩;rw[HF.o];rfl)
def dW (s:η):Nat->Nat->Int->Int->Int×Int
 | 0,_,line,col=>(line,col)
 | f+1,p,line,col=>
  if p<s.size then
   (if (δ s p).1=10 then dW s f (p+(δ s p).2) (line+1) 1 else dW s f (p+(δ s p).2) line (col+1))
  else (line,col)
theorem zbB (s:η) (f p:Nat) (line col:Int) (h:s.size<=p):dW s f p line col=(line,col):=by
 cases f with
 | zero=>rfl
 | succ f=>rw[dW,zN zo]
theorem zax (s:η) (f p:Nat) (line col:Int) (h:p<s.size):
 dW s (f+1) p line col=if (δ s p).1=10 then dW s f (p+(δ s p).2) (line+1) 1 else dW s f (p+(δ s p).2) line (col+1):=by
 rw[dW,zP h]
theorem conv_buf (s:η) (n g off cap:Nat) (w:ω) (hn:n<=s.size) (hb:∀ i,i<s.size->w.v g (off+i) (.int .u8 (bL s i))):
 (convert 40 9 (τ (some (g.p off)) n cap)).run prog w=.ok (γ (ε s 0 n)) w:=by
 have hl:I ((ε s 0 n).data.toList)=n:=by
  have:=fS s n hn;simpa using this
 have h:=run_convert_bytes_back (P:=prog) w 40 9 5 (g.p off) cap (ε s 0 n).data.toList underlying40 underlying5 underlying9 (λj hj=>by
  have KZ:j<n:=zo
  have h1:=hb j zo;have h2:=iV s n j hn KZ;have he:((g.p off):Addr).add j=(g.p (off+j)):=by simp[Addr.add]
  simp_all[bL,ByteArray.get!])
 rw[hl] at h;exact h
theorem pM (s:η) (p:Nat) (h:p<s.size):1<=(δ s p).2/\p+(δ s p).2<=s.size:=by
 grind [zbe]
theorem token_any (s:η) (hs:s.size<1000000) (x:vD) (w:ω) (bs bt g off cap:Nat) (rd why err:Value) (C:Nat) (aQ line col:Int)
 (hSc:ScAt w bs bt rd C (τ (some (g.p off)) s.size cap) why err aQ line col) (Xi:s.size<=cap) (xh:g<w.t) (qg:g≠bs)
 (Db:∀ i,i<s.size->w.v g (off+i) (.int .u8 (bL s i))) (qo:x.long<=s.size) (cd:0<=aQ/\aQ<1000000000) (hline:0<=line/\line<1000000000) (hcol:0<=col/\col<1000000000):
 Γ 48 #[aF bs,.agg #[ι x.set,ι x.alive,ι x.long,ι x.rU]] w λe w'=>e=ρ (.agg #[ι x.rU,ι aQ,ι line,ι col,γ (ε s 0 x.long)])/\w.g w' bs/\
  ∃ pa:Addr,(pa=(g.p (off+x.long))\/(cap=x.long/\pa=(g.p off)))/\ScAt w' bs bt rd C (τ (some pa) (s.size-x.long) (cap-x.long)) why err (aQ+x.long) (dW (ε s 0 x.long) (x.long+1) 0 line col).1 (dW (ε s 0 x.long) (x.long+1) 0 line col).2:=by
 have s3:=zq 3 hSc;have s6:=zq 6 hSc;have s7:=zq 7 hSc;have s8:=zq 8 hSc;have lbs:=aA hSc;have Vk:=Θ hSc Db;clear hSc Db;go_in;go_wp2
 obtain⟨w2,QG⟩:=zE ((κ (κ w (Ω #[ι x.set,ι x.alive,ι x.long,ι x.rU] 127)) (Ω #[ι 0,ι 0,ι 0,ι 0,γ ⟨#[]⟩] 64)));have Hm:w.u w2:=by rw[QG];exact (Ξ w _).alloc zs _
 have Po:iZ w2 w.t x:=by rw[QG];exact (bS _ _ _ zs).trans (bA _ _ _ rfl)
 have Xy:w2.h (w.t+1) #[ι 0,ι 0,ι 0,ι 0,γ ⟨#[]⟩] 64:=by rw[QG];exact bA _ _ _ zs
 rw[<-QG];have QV:=Λ Hm Po Xy;have Kb:∀ w',w2.u w'->w2.u w'/\w'.v bs 3 (τ (some (g.p off)) s.size cap)/\w'.i bs 6 aQ/\w'.i bs 7 line/\w'.i bs 8 col/\w'.i w.t 2 x.long/\w'.i w.t 3 x.rU/\
  (convert 40 9 (τ (some (g.p off)) x.long cap)).run prog w'=.ok (γ (ε s 0 x.long)) w':=λw' hb=>by
  have hl:bs<w2.t:=zLd lbs Hm.size;have Q9:=aA Po;obtain⟨_,_,e2,e3⟩:=Po.cells;have hk:∀ o,w'.cell? (bs.p o)=w.cell? (bs.p o):=λo=>(aG hb (bs.p o) hl).trans (aG Hm (bs.p o) lbs);refine⟨hb,(hk 3).trans s3,(hk 6).trans s6,(hk 7).trans s7,(hk 8).trans s8,(aG hb (w.y 2) Q9).trans e2,(aG hb (w.y 3) Q9).trans e3,conv_buf s x.long g off cap w' qo (λi hi=> ?_)⟩
  exact ((aG hb (g.p (off+i)) (zLd xh Hm.size)).trans (aG Hm (g.p (off+i)) xh)).trans (Vk.o.2 i hi)
 have YZ:=zh Kb;have:=zu x.long cap
 have:=zu x.long s.size
 clear QG Hm Po Xy Kb s3 s6 s7 s8;go_region_held3 (λw'=>w2.u w'/\w'.v bs 3 (τ (some (g.p off)) s.size cap)/\w'.i bs 6 aQ/\w'.i bs 7 line/\w'.i bs 8 col/\w'.i w.t 2 x.long/\w'.i w.t 3 x.rU/\
  (convert 40 9 (τ (some (g.p off)) x.long cap)).run prog w'=.ok (γ (ε s 0 x.long)) w') (first|exact YZ.o _ iM.drew|exact YZ.o _ (iM.drew.alloc zs _)|exact YZ.o _ ((iM.drew.alloc zs _).setCell zs _)) (fail)
 obtain⟨w3,yj⟩:=zE ((κ w2 (Ω #[ι x.rU,ι aQ,ι line,ι col,γ (ε s 0 x.long)] 64)).drew);have Hu:w2.u w3:=by rw[yj];exact (Ξ w2 _).drew
 have Vu:w3.h w2.t #[ι x.rU,ι aQ,ι line,ι col,γ (ε s 0 x.long)] 64:=by rw[yj];exact bA _ _ _ rfl
 rw[<-yj];clear yj;have tk:=YZ.o w3 Hu;have Nz:ScAt w3 bs bt rd C (τ (some (g.p off)) s.size cap) why err aQ line col:=(Hu.block bs (zLd lbs QV.o.1.size)).trans ((QV.o.1.block bs lbs).trans Vk.o.1);have VU:=Λ Hu Vu Nz;clear Hu Vu Nz;go_wp2;obtain⟨_,k3,k6,k7,k8,l2,l3,_⟩:=tk;have fz3:w3.q bs 3:=zF 3 VU.o.2.2
 obtain⟨pa,Y5,Ng⟩:∃ pa:Addr,(if cap=x.long then some ((g.p off):Addr) else some (g.p (off+x.long)))=some pa/\(pa=(g.p (off+x.long))\/(cap=x.long/\pa=(g.p off))):=by
  grind
 have Eb:=zh Ng;clear Ng;refine zzAl ?_;refine bV (λw'=>w'.v bs 3 (τ (some (g.p off)) s.size cap)/\w'.i w.t 2 x.long/\w'.q bs 3) 10 zr ⟨k3,l2,fz3⟩ (λHc=> ?_);refine zzAC ?_;refine bY 8 (λK hK=> ?_);go_simp;refine hK.out _ _ (λ_=>Hc) ?_;clear hK K;refine zzAF ?_;refine bY 9 (λK hK=> ?_);go_simp;refine hK.out _ _ (λ_=>Hc) ?_;clear hK K;refine zzAF ?_;refine bY 10 (λK hK=> ?_);go_simp;refine hK.out _ _ (λh=>absurd rfl h) ?_;clear hK K Hc;refine zzAF ?_;refine dB zr ?_;refine NoPanic.normal ?_
 go_wp2;have NA:ScAt (ς w3 (bs.p 3) (τ (some pa) (s.size-x.long) (cap-x.long))).drew bs bt rd C (τ (some pa) (s.size-x.long) (cap-x.long)) why err aQ line col:=aB _ bs 3 _ _ _ _ VU.o.2.2;have gr4:w3.grownBy (ς w3 (bs.p 3) (τ (some pa) (s.size-x.long) (cap-x.long))).drew (some bs):=aM (bQ _ bs 3 _) 1;generalize (ς w3 (bs.p 3) (τ (some pa) (s.size-x.long) (cap-x.long))).drew=w4 at NA gr4 ⊢;have q6:=zq 6 NA
 have fz6:w4.q bs 6:=zF 6 NA;have lX3:w.heap.size<w3.heap.size:=by have:=VU.o.1.size;have:=aA QV.o.2.1;omega
 have lX3b:w.t≠bs:=zo
 have ZB:iZ w4 w.t x:=(gr4.block w.t lX3 (λe=>lX3b zg)).trans ((VU.o.1.block _ (aA QV.o.2.1)).trans QV.o.2.1);obtain⟨_,_,x2,_⟩:=ZB.cells;have:IntKind.i64.wrap (aQ+(x.long:Int))=aQ+x.long:=by rw[lM]
 have vk:=Λ NA gr4 ZB;clear NA gr4 ZB;refine zzAl ?_;refine bV (λw'=>w'.i bs 6 aQ/\w'.i w.t 2 x.long/\w'.q bs 6) 9 zr ⟨q6,x2,fz6⟩ (λHc=> ?_);refine zzAD ?_;refine aE 5 Hc ?_;refine aE 6 Hc ?_;refine bY 7 (λK hK=> ?_);go_simp;refine hK.out _ _ (λ_=>Hc) ?_;clear hK K;refine zzAF ?_;refine bY 8 (λK hK=> ?_);go_simp;refine hK.out _ _ (λ_=>Hc) ?_;clear hK K;refine zzAF ?_;refine bY 9 (λK hK=> ?_);go_simp;refine hK.out _ _ (λh=>absurd rfl h) ?_;clear hK K Hc;refine zzAF ?_;refine dB zr ?_;refine NoPanic.normal ?_
 have iz:ScAt (ς w4 (bs.p 6) (ι (aQ+x.long))).drew bs bt rd C (τ (some pa) (s.size-x.long) (cap-x.long)) why err (aQ+x.long) line col:=aB _ bs 6 _ _ _ _ vk.o.1;have gr5:w3.grownBy (ς w4 (bs.p 6) (ι (aQ+x.long))).drew (some bs):=aM (aC vk.o.2.1 (bQ _ bs 6 _)) 1;generalize (ς w4 (bs.p 6) (ι (aQ+x.long))).drew=w5 at iz gr5 ⊢;have lw2:w2.heap.size<w3.heap.size:=aA VU.o.2.1;have lw2b:w2.t≠bs:=by have:=QV.o.1.size;omega
 have BE:w5.h w2.t #[ι x.rU,ι aQ,ι line,ι col,γ (ε s 0 x.long)] 64:=(gr5.block _ lw2 (λe=>lw2b zg)).trans VU.o.2.1;have t4:=zq 4 BE;have VC:=Λ iz gr5 BE;clear iz gr5 BE q6 fz6 x2 k3 k6 k7 k8 l2 l3 fz3;go_wp2;have Hv:=fS s x.long qo;obtain⟨text,NG⟩:=zE (ε s 0 x.long)
 have HTX:=zh NG;rw[<-NG] at Hv t4 VC ⊢;obtain⟨F,hF⟩:=zE (dW text (x.long+1) 0 line col);have HF:=zh hF;obtain⟨n,hn⟩:=zE (x.long);have HN:=zh hn;have yh:=zh (Hv.trans hn.symm);have HLC:=Ψ hline hcol qo hs;have lw5:w2.heap.size<w5.heap.size:=aA VC.o.2.2;have lb5:bs<w5.t:=aA VC.o.1;have GQ:(w5.iter text 0).heap[w5.heap.size]?=some (.stringIter text 0):=World.iter_heap w5 text 0
 have iy:ScAt (w5.iter text 0) bs bt rd C (τ (some pa) (s.size-x.long) (cap-x.long)) why err (aQ+x.long) line col:=(Below.heap_alloc _ _ _ lb5).trans VC.o.1;have GK:w5.grownBy (w5.iter text 0) (some bs):=aH (iM.alloc bR _) _;generalize w5.iter text 0=wi at GQ iy GK ⊢;have Lx:=Λ GQ iy GK;clear GQ iy GK Hv NG hF hn hline hcol qo hs
 go_loopg [7] n (λgh o7 wr=>∃ (p f:Nat) (ln cl:Int),p+gh=n/\wr.heap[w5.heap.size]?=some (.stringIter text p)/\ScAt wr bs bt rd C (τ (some pa) (s.size-x.long) (cap-x.long)) why err (aQ+x.long) ln cl/\w5.g wr bs/\n<f+p/\dW text f p ln cl=F/\0<=ln/\ln<=line+p/\0<=cl/\cl<=col+p)
 case atStart=>
  have:=HLC.o;exact⟨0,n+1,line,col,zo,Lx.o.1,Lx.o.2.1,Lx.o.2.2,zo,by rw[HF.o,HN.o],zo,zo,zo,zo⟩
 case round=>
  obtain⟨p,f,ln,cl,hpg,hit,Yd,Qm,ED,SU,Hk,Hm,Hu,qu⟩:=hrel;have HR:=Ψ hit Yd Qm SU;by_cases hk:p<n
  . have sd:p<text.size:=by rw[yh.o];exact hk
    have Xw:=run_next_any_at (P:=prog) wr w5.t text p 0 hit sd;have UF:=pM text p sd;rw[yh.o] at UF;have Hh:=SU;obtain⟨f,rfl⟩:∃ f',f=f'+1:=⟨f-1,zo⟩;rw[zax _ _ _ _ _ sd] at Hh;generalize δ text p=cn at Xw UF Hh;obtain⟨c,k⟩:=cn;dsimp only at Xw UF Hh;have lbw:bs≠w5.t:=zo
    have ac:ScAt (wr.iterAt w5.t text (p+k)) bs bt rd C (τ (some pa) (s.size-x.long) (cap-x.long)) why err (aQ+x.long) ln cl:=(iterAt_other wr w5.t bs text _ lbw).trans Yd;have GR:=iterAt_heap wr w5.t text p (p+k) hit;have GL:w5.grownBy (wr.iterAt w5.t text (p+k)) (some bs):=xR Qm zo _ _;generalize wr.iterAt w5.heap.size text (p+k)=wj at Xw ac GR GL;have:=zq 7 ac;have:=zq 8 ac
    have:=zF 7 ac;have:=zF 8 ac;have HJ:=Λ ac GR GL;have Hl:=zh Hh;have Wc:=HLC.o;have K7:=HN.o;have:=lM (n:=cl+1);have QG:=lM (n:=ln+1);have HP:=Ψ hpg ED Hk (zAi Hm (zAi Hu (zAi qu UF)))
    clear hit Yd Qm SU ac GR GL Hh Wc K7 hpg ED Hk Hm Hu qu UF;by_cases hc:c=10
    . subst hc
      go_wp2;go_roundg (n-(p+k))
      case rel=>
       have hp:=HP.o;have Hh:=Hl.o;rw[zP trivial] at Hh;refine⟨p+k,f,ln+1,1,zo,?_,?_,?_,zo,Hh,zo,zo,zo,zo⟩
       . rw[aD _ _ _ _ zg,aD _ _ _ _ zg,aD _ _ _ _ zg];exact HJ.o.2.1
       . exact aB _ bs 8 _ _ _ _ (aB _ bs 7 _ _ _ _ (aB _ bs 8 _ _ _ _ HJ.o.1))
       . exact aC (aC (aC HJ.o.2.2 (bQ _ bs 8 _)) (bQ _ bs 7 _)) (bQ _ bs 8 _)
      case measure=>have hp:=HP.o;omega
    have:((c:Int)==10)=false:=zx
    have HC:=zh hc;clear hc;go_wp2;go_roundg (n-(p+k))
    case rel=>
     have hp:=HP.o;have Hh:=Hl.o;rw[zN HC.o] at Hh;refine⟨p+k,f,ln,cl+1,zo,?_,?_,?_,zo,Hh,zo,zo,zo,zo⟩
     . rw[aD _ _ _ _ zg];exact HJ.o.2.1
     . exact aB _ bs 8 _ _ _ _ HJ.o.1
     . exact aC HJ.o.2.2 (bQ _ bs 8 _)
    case measure=>have hp:=HP.o;omega
  have Xw:=run_next_end_at (P:=prog) wr w5.t text p 0 hit (by rw[yh.o];exact hk)
  have:p=n:=zo
  have lh:=HR.o.2.2.2;rw[zbB _ _ _ _ _ (by rw[yh.o];omega)] at lh;have xe:=zh lh;have u5:=(Qm.block w2.t lw5 (λe=>lw2b zzCR)).trans VC.o.2.2;have:=zq 0 u5;have:=zq 1 u5;have:=zq 2 u5;have:=zq 3 u5;have:=zq 4 u5;have lrw:w.t+1≠bs:=zo
  have l2w:=aA QV.o.2.2;have l3w:w.heap.size+1<w3.heap.size:=zLd l2w VU.o.1.size;have rb:wr.h (w.t+1) #[ι 0,ι 0,ι 0,ι 0,γ ⟨#[]⟩] 64:=
   (Qm.block _ (zLd l3w VC.o.2.1.size) (λe=>lrw zzCR)).trans ((VC.o.2.1.block _ l3w (λe=>lrw zzCR)).trans ((VU.o.1.block _ l2w).trans QV.o.2.2))
  have:=zq 0 rb;have:=zq 1 rb;have:=zq 2 rb;have:=zq 3 rb;have:=zq 4 rb;have:=zF 0 rb;have:=zF 1 rb;have:=zF 2 rb;have:=zF 3 rb;have:=zF 4 rb;have:=aA rb;have RB:=zh rb;clear hit Yd Qm SU hpg ED Hk Hm Hu qu lh rb;go_wp2
  obtain⟨wf,NP⟩:=zE ((ς (ς (ς (ς (ς wr ⟨w.t+1,0,none⟩ (ι x.rU)) ⟨w.t+1,1,none⟩ (ι aQ)) ⟨w.t+1,2,none⟩ (ι line)) ⟨w.t+1,3,none⟩ (ι col)) ⟨w.t+1,4,none⟩ (γ text)));have Ns:wf.h (w.t+1) #[ι x.rU,ι aQ,ι line,ι col,γ text] 64:=by
   rw[NP];exact aB _ _ 4 _ _ _ _ (aB _ _ 3 _ _ _ _ (aB _ _ 2 _ _ _ _ (aB _ _ 1 _ _ _ _ (aB _ _ 0 _ _ _ _ RB.o))))
  have hkf:∀ b,b≠w.heap.size+1->wf.e wr b:=λb hb=>by
   rw[NP,aD _ _ _ _ hb,aD _ _ _ _ hb,aD _ _ _ _ hb,aD _ _ _ _ hb,aD _ _ _ _ hb]
  have ae:wf.heap.size=wr.heap.size/\wf.os=wr.os/\wf.tape=wr.tape/\wf.output=wr.output:=by rw[NP];exact⟨zs,rfl,rfl,rfl⟩
  rw[<-NP];clear NP;have z0:=zq 0 Ns;have z1:=zq 1 Ns;have z2:=zq 2 Ns;have z3:=zq 3 Ns;have z4:=zq 4 Ns;have N9:w.g wf bs:=by
   have g1:w.g w3 bs:=aC (aH QV.o.1 _) (aH VU.o.1 _ |> λh=>⟨h.os,h.tape,h.output,h.size,h.block⟩);have g2:=aC (aC g1 VC.o.2.1) HR.o.2.2.1;exact⟨ae.2.1.trans g2.os,ae.2.2.1.trans g2.tape,ae.2.2.2.trans g2.output,zo,λb hb hn=>(hkf b zo).trans (g2.block b hb hn)⟩
  have hscF:ScAt wf bs bt rd C (τ (some pa) (s.size-x.long) (cap-x.long)) why err (aQ+x.long) ln cl:=(hkf bs (Ne.symm lrw)).trans HR.o.2.1;have El:(dW (ε s 0 x.long) (x.long+1) 0 line col)=(ln,cl):=by rw[<-HTX.o,<-HF.o,xe.o]
  refine bodyPost_ret (v:=.agg #[ι x.rU,ι aQ,ι line,ι col,γ text]) (by simp[results,results48,go_sem,z0,z1,z2,z3,z4]) rfl ⟨by rw[HTX.o],N9,pa,Eb.o,?_⟩;rw[El];exact hscF
