/- Part of a proof. No condition. -/
import Derived.Stop.Asserts
import Derived.Lib.IfaceEq
import Derived.Test.YtmfnmkccbldfpaaGreatDoorS22
set_option linter.unusedVariables false
set_option linter.unusedSimpArgs false
set_option maxRecDepth 100000
set_option maxHeartbeats 40000000
namespace Go.Proofs.YtmfnmkccbldfpaaGreatDoor
theorem zzDs {p:Prop} (h:p:=by
 rw[bO]
 repeat' split
 all_goals first|exact h0|exact hk|simp):p:=h
theorem zzDW {p:Prop} (h:p:=by rintro (h9|h9|h9);exact hs h9.1;omega;omega):p:=h
theorem zzDT {p:Prop} (h:p:=by
 rcases zLg t.block w.heap.size with h|h
 . exact h
 grind [World.cell?]):p:=h
theorem zzDR {p:Prop} (h:p:=by simp[results,results22,go_sem,z0,z1,z2,z3,z4]):p:=h
theorem zzC4 {p:Prop} (h:p:=by rintro (h9|h9|h9);exact h9.2 Je;exact h9.2.1 Je;omega):p:=h
theorem zzCs {p:Prop} (h:p:=by
 exact⟨rfl,aB _ b 0 _ _ _ _ ((qu.block b lb).trans ht),aC (aH qu _) (bQ _ b 0 _)⟩):p:=h
theorem zzCT {p:Prop} (h:p:=by
 by_cases hr:y.rU<0
 all_goals
  go_wp2;go_meet;exact HE.o):p:=h
theorem zzCN {p:Prop} (h:p:=by
 show (0:Nat)+qN (p::r) pos<=_;omega):p:=h
theorem zzCI {p:Prop} (h:p:=by have h1:=qS (eB buf2 0) (by have h:=HF.o;unfold fY at h;exact h);have h2:=vn.o;omega):p:=h
theorem zzBP {p:Prop} (h:p:=by
 rw[World.cell?_alloc_lt _ _ ⟨2,0,none⟩ zx,World.cell?_alloc_lt _ _ ⟨2,0,none⟩ Hf];exact hg):p:=h
theorem zzAn {p:Prop} (h:p:=by
 clear hf Je;go_wp2_with (first|(go_at_call 45;refine (x9.o _ Yy.o).mono ?_;rintro e w4 ⟨rfl,tV⟩;rw[HF.o];have vm:zH (Below w3.heap.size w3 w4):=zh (bI Yy.o tV Yy.o.size);obtain⟨w42,w43,w44,w45,w4x3,w4f5,w4lb,w4lx⟩:=Vw.o w4 vm.o;rw[jE Ei.o] at w44;clear tV));go_meet;exact HE.o _ vm.o):p:=h
variable {Q:Exit->Act->World->Prop} {a:Act} {w w':ω} {bs sb R B bt C why xb n len:Nat} {buf s x b:η} {T:dX} {aQ line col:Int} {S:lN}
section
open Go.RowKit Go.Lib Go.Extern.Stop Go.Stop Go.Extern
theorem zek (v:Value) (w:ω):(Extern.ReflectliteType.typeOf #[Δ 86 v]).run Tryz.prog w=.ok (Δ 261 (.agg #[Φ (some ⟨4,86,none⟩)])) w:=by rfl
abbrev cmpE:Array Value->Sem Value:=Extern.ReflectliteType.method λt=>do Go.Extern.Rtype.noPackHeld "Comparable" t;pure (φ (<-typeInfo t).comparable)
theorem zfv (w:ω):(cmpE #[.agg #[Φ (some ⟨4,86,none⟩)]]).run Tryz.prog w=.ok (φ true) w:=by kernel_rfl
theorem zaN (v:Value) (w:ω):(Go.method 437 261 v "Comparable").run Tryz.prog w=.ok (197,v) w:=by kernel_rfl
theorem noIsE (v:Value) (xT:TypeId) (w:ω):(Instr.typeAssert (Δ 86 v) xT 263 true).run Tryz.prog w=.ok (ϕ #[.nilIface,φ false]) w:=run_typeAssert_lacksB Tryz.underlying263 zK zK v xT w
theorem zfF (v:Value) (xT:TypeId) (w:ω):(Instr.typeAssert (Δ 86 v) xT 266 true).run Tryz.prog w=.ok (ϕ #[.nilIface,φ false]) w:=run_typeAssert_lacksB Tryz.underlying266 zK zK v xT w
theorem zdB (v:Value) (xT:TypeId) (w:ω):(Instr.typeAssert (Δ 86 v) xT 268 true).run Tryz.prog w=.ok (ϕ #[.nilIface,φ false]) w:=run_typeAssert_lacksB Tryz.underlying268 zK zK v xT w
theorem is_nil (b:Nat) (w:ω):Calls Tryz.prog 44 #[.nilIface,Δ 86 (ι b)] w λe w'=>e=ρ (φ false)/\w'=w:=by
 have:=run_eql_iface_nil_left (P:=Tryz.prog) w 86 (ι b) Tryz.underlying51;go_in;go_wp2;go_ret;simp
theorem is_num (a b:Nat) (w:ω):Calls Tryz.prog 44 #[Δ 86 (ι a),Δ 86 (ι b)] w λe w'=>e=ρ (φ (decide (a=b)))/\w'=w:=by
 have:= @run_callFunc_extern Tryz.prog 87 _ Extern.ReflectliteType.typeOf Tryz.func87 zr zr zr zK;have:= @run_callFunc_extern Tryz.prog 197 _ cmpE Tryz.func197 zr zr zr zK;have:=zek;have:=zfv;have:=zaN;have:=noIsE;have:=zfF;have:=zdB;have heq:(binOp .eql 51 (Δ 86 (ι a)) (Δ 86 (ι b))).run Tryz.prog w=.ok (φ (decide (a=b))) w:=by
  have h:=run_eql_iface_int (P:=Tryz.prog) w (k:=.i64) (a:Int) (b:Int) Tryz.underlying51 (tx:=86) zr Tryz.underlying86;rw[h];congr 2;rw[Bool.eq_iff_iff];simp;omega
 go_in;cases hd:decide (a=b) with
 | true=>
  rw[hd] at heq;clear hd;go_wp2;refine zzAZ ?_;go_wp2;go_ret;simp
 | false=>
  rw[hd] at heq;clear hd;go_wp2;refine zzAZ ?_;go_wp2;go_ret;simp
end
section
open Go.RowKit Go.Lib Tryz
def jI (T:dX) (C:Nat):Nat->η->Nat->lN->vD->Nx×η×Nat×lN
 | 0,buf,why,S,_=>(.err 0,buf,why,S)
 | n+1,buf,why,S,x=>
  if C<=dU T buf (dK T buf (buf.size+1) x) then (.err 10,buf,why,S)
  else if (dU T buf (dK T buf (buf.size+1) x)=buf.size/\why=0)\/((dK T buf (buf.size+1) x).rU<0/\why=0/\fY buf 0=false) then
   jI T C n (dL C buf S).1 (dL C buf S).2.1 (dL C buf S).2.2 (dK T buf (buf.size+1) x)
  else if (dU T buf (dK T buf (buf.size+1) x)=buf.size/\why≠13)\/((dK T buf (buf.size+1) x).rU<0/\why≠13/\fY buf 0=false)\/buf.size=0 then (.err why,buf,why,S)
  else (.tok (dK T buf (buf.size+1) x).rU (if (dK T buf (buf.size+1) x).rU<0 then (δ buf 0).2 else (dK T buf (buf.size+1) x).long),buf,why,S)
theorem zaj {P:Program} {c rest:Code} (l:Nat) (J:Nat->Act->World->Prop) (hf:findLabel c l=some (Code.seq Code.skip rest))
 (pass:∀ n a w,J n a w->rest.wp P (Exit.jump l (λa' w'=>∃ m,m<n/\J m a' w') Q) a w)
 (first:(∀ n a w,J n a w->rest.wp P (Exit.jump l (λa' w'=>∃ m,J m a' w') Q) a w)->c.wp P (Exit.jump l (λa' w'=>∃ m,J m a' w') Q) a w):(Code.scope c).wp P Q a w:=by
 have ex:∀ (p:Nat->Prop),(∃ n,p n)->∃ n,p n/\∀ m,p m->n<=m:=by
  intro p ⟨n,hn⟩
  induction n using Nat.strongRecOn with
  | _ n ih=>
   grind
 have mono:∀ (J1 J2:Act->World->Prop),(∀ a w,J1 a w->J2 a w)->∀ (e:Exit) (a:Act) (w:ω),Exit.jump l J1 Q e a w->Exit.jump l J2 Q e a w:=by
  intro J1 J2 h e a w hj;cases e with
  | goto l'=>exact⟨hj.1,h _ _ hj.2⟩
  | _=>exact hj
 classical
 let μ:Act->World->Nat:=λa w=>if h:∃ n,J n a w then Classical.choose (ex _ h) else 0
 have hμ:∀ a w,(∃ n,J n a w)->J (μ a w) a w/\∀ m,J m a w->μ a w<=m:=by
  intro a w h;have e:μ a w=Classical.choose (ex _ h):=dif_pos h;rw[e];exact Classical.choose_spec (ex _ h)
 refine wp_scope_jumps l (λa w=>∃ n,J n a w) μ hf (first λn a w h=>Code.wp_mono (mono _ _ λa' w' ⟨m,_,hm⟩=>⟨m,hm⟩) (pass n a w h)) ?_;intro a w h;have h1:=hμ a w h;refine wp_seq (wp_skip (Code.wp_mono (mono _ _ λa' w' ⟨m,Hf,hm⟩=> ?_) (pass _ a w h1.1)));have:=hμ a' w' ⟨m,hm⟩
 grind
theorem iI.below {BT:Nat} {b1 b2:Value} {u v:ω} (h:iI bs sb b1 b2 u v) (hB:BT<=u.t) (h1:BT<=bs) (h2:BT<=sb) (h3:∀ g,β b1=some g->BT<=g):Below BT u v:=
 ⟨h.os,h.tape,h.output,h.size,λb hb=>h.keep b zo zo zo (λe=>zg)⟩
theorem qH.cut {cap:Nat} {g off:Nat} (h:qH w (τ (some (g.p off)) buf.size cap) buf) (long:Nat) (hl:long<=buf.size) (pa:Addr) (Y5:pa=(g.p (off+long))\/(cap=long/\pa=(g.p off))):
 qH w (τ (some pa) (buf.size-long) (cap-long)) (ε buf long buf.size):=by
 rcases h with⟨e,_⟩|⟨g',off',xq,cells,e,h2,h3,h4,h5⟩
 . cases e
 cases e
 have Hv:=kZ buf long buf.size bR
 rcases Y5 with rfl|⟨rfl,rfl⟩
 . refine .inr ⟨g,off+long,cap-long,cells,by rw[Hv],zo,h3,zo,λi hi=> ?_⟩
   grind [zgg]
 refine .inr ⟨g,off,cap-cap,cells,by rw[Hv],zo,h3,zo,λi hi=> ?_⟩
 omega
structure NxSt (T:dX) (C B bs bt sb rb xb:Nat) (aQ line col:Int) (R:Nx×η×Nat×lN) (w0:ω) (bv0:Value) (n:Nat) (buf:η) (why:Nat) (S:lN) (bv:Value) (x:vD) (w:ω):Prop where
 st:kQ B w bs bt sb C buf why 0 aQ line col S bv
 keep:iI bs sb bv0 bv w0 w
 run:iZ w xb x
 res:w.h rb #[ι 0,ι 0,ι 0,ι 0,γ ⟨#[]⟩] 64
 own:β bv≠some xb/\β bv≠some rb
 alive:x.alive<=buf.size
 set:x.set<I T.gO
 long:x.long<=x.alive
 size:buf.size<=C
 fuel:(C-buf.size)+(if why=0 then 1 else 0)<n
 rest:jI T C n buf why S x=R
def NextO (C B bs bt sb:Nat) (aQ line col:Int) (R:Nx×η×Nat×lN) (bv:Value) (w:ω) (e:Ending) (w':ω):Prop:=
 match R with
 | (.err k,buf,why,S)=>e=ρ (ϕ #[.agg #[ι 0,ι 0,ι 0,ι 0,γ ⟨#[]⟩],fN k])/\∃ bv',kQ B w' bs bt sb C buf why k aQ line col S bv'/\iI bs sb bv bv' w w'
 | (.tok rU len,buf,why,S)=>e=ρ (ϕ #[.agg #[ι rU,ι aQ,ι line,ι col,γ (ε buf 0 len)],.nilIface])/\
  ∃ bv',kQ B w' bs bt sb C (ε buf len buf.size) why 0 (aQ+len) (dW (ε buf 0 len) (len+1) 0 line col).1 (dW (ε buf 0 len) (len+1) 0 line col).2 S bv'/\iI bs sb bv bv' w w'
theorem zi9 {x:vD} (h:x.long<=x.alive):(nB T s x).long<=(nB T s x).alive:=by
 grind [nB]
theorem zfS :∀ (f:Nat) (x:vD),x.long<=x.alive->(dK T s f x).long<=(dK T s f x).alive
 | 0,x,h=>h
 | f+1,x,h=>by
  rw[dK];split
  . exact zfS f _ (zi9 h)
  omega
theorem zfE (hT:yV T R) {set:Nat} {c:Int} (h:0<=fQ T set c):(fQ T set c).toNat<I T.gO:=by
 have hm:=zgX h;have hk:fQ T set c∈χ T.gO set []:=by
  unfold fQ at h ⊢;generalize T.gO.getD set []=row at h hm ⊢;rw[zLf,zLe hm.2];exact List.getElem_mem _
 have:=hT.cells _ hm.1 _ hk;omega
theorem zh3 (hT:yV T R) :∀ (f:Nat) (x:vD),x.set<I T.gO->(dK T s f x).set<I T.gO
 | 0,x,h=>h
 | f+1,x,h=>by
  rw[dK];split
  . rename_i hg
    refine zh3 hT f _ ?_;simp only[dC,Bool.and_eq_true,decide_eq_true_eq] at hg;unfold nB;split<;>exact zfE hT hg.2.2.2
  omega
theorem kQ.grown {err:Nat} {bv:Value} (h:kQ B w bs bt sb C buf why err aQ line col S bv) (hg:w.g w' xb) (hB:B<=xb) (hb:xb≠bs) (hv:β bv≠some xb):kQ B w' bs bt sb C buf why err aQ line col S bv:=by
 have hk:∀ b,b<w.heap.size->b≠xb->w'.e w b:=λb Qy hn=>hg.block b Qy (λe=>hn zg);exact⟨(hk bs h.lt.2.2.1 (Ne.symm hb)).trans h.sc,h.buf.kept (λg QY=>hk g (h.buf.lt g QY) (λe=>hv zg)),h.src.below (λb Qy=>hk b (zLd Qy h.lt.2.1) zo),h.ok,h.bB,h.own⟩
theorem iI.grown {b1 b2:Value} {u v:ω} (h:iI bs sb b1 b2 u v) (hg:v.g w xb) (hx:u.t<=xb):iI bs sb b1 b2 u w:=
 ⟨hg.os.trans h.os,hg.tape.trans h.tape,hg.output.trans h.output,zT h.size hg.size,λb hb h1 h2 h3=>(hg.block b (zLd hb h.size) (λe=>zg)).trans (h.keep b hb h1 h2 h3),h.new⟩
theorem full_buf (s:η) (hs:s.size<1000000) (ao:Option Addr) (cap:Nat) (w:ω) (hT:oK w) (h:zeW w (τ ao s.size cap) s):
 Γ 45 #[τ ao s.size cap] w λe w'=>e=ρ (φ (fY s 0))/\w.u w':=by
 rcases h with⟨e,h0⟩|⟨g,off,xq,e,h1,h2,h3⟩
 . have hf:fY s 0=false:=by
    unfold fY fG;rw[h0];simp
   rw[hf,h0];exact zdr ao cap w
 cases e
 rcases Nat.eq_zero_or_pos s.size with h0|h0
 . have hf:fY s 0=false:=by
    unfold fY fG;rw[h0];simp
   rw[hf,h0];exact zdr _ cap w
 have hd:=hd_of (p:=0) h3 h0 h2
 have hh:=zee g off s.size cap _ _ _ w hT (by simpa using hd) h0 hs;unfold fY;simpa using hh
theorem bI {a b c:ω} (h:Below B a b) (k:b.u c) (hB:B<=b.t):Below B a c:=
 ⟨k.os.trans h.os,k.tape.trans h.tape,k.output.trans h.output,zT h.size k.size,λx hx=>(k.block x zo).trans (h.block x hx)⟩
theorem kD:fN 0=.nilIface:=rfl
theorem jE {k:Nat} (h:k≠0):fN k=Δ 86 (ι k):=by unfold fN;grind
theorem is_err (k:Nat) (w:ω):Γ 44 #[fN k,Δ 86 (ι 13)] w λe w'=>e=ρ (φ (decide (k=13)))/\w'=w:=by
 by_cases h:k=0
 . rw[h]
   exact is_nil 13 w
 have e:fN k=Δ 86 (ι k):=by unfold fN;rw[zN h]
 rw[e];exact is_num k 13 w
theorem zcx (room:Nat):∀ (k:Nat) (buf:η) (S:lN),buf.size<=(oI room k buf S).1.size/\(oI room k buf S).1.size<=buf.size+room/\((oI room k buf S).2.1=0->buf.size<(oI room k buf S).1.size)
 | 0,buf,S=>⟨bR,Nat.le_add_right _ _,λh=>by cases h⟩
 | k+1,buf,S=>by
  have:=zbo room S;rw[oI];by_cases h:(dV room S).2.1≠0\/0<(dV room S).1
  . grind [fS]
  rw[zN h]
  exact zcx room k buf _
theorem zar (C:Nat) (buf:η) (S:lN) (h:buf.size<=C):buf.size<=(dL C buf S).1.size/\(dL C buf S).1.size<=C/\((dL C buf S).2.1=0->buf.size<(dL C buf S).1.size):=by
 grind [zcx,zgW,dL]
theorem NxSt.more {rb:Nat} {R:Nx×η×Nat×lN} {w0:ω} {bv0:Value} {bv:Value} {y:vD} {bv':Value}
 (YQ:iI bs sb bv0 bv w0 w) (Qv:iZ w xb y) (qy:w.h rb #[ι 0,ι 0,ι 0,ι 0,γ ⟨#[]⟩] 64) (Yb:β bv≠some xb/\β bv≠some rb) (X5:y.alive<=buf.size) (Ht:y.set<I T.gO) (hlong:y.long<=y.alive) (hC:buf.size<=C)
 (hfuel:(C-buf.size)+1<n+1) (Ha:jI T C n (dL C buf S).1 (dL C buf S).2.1 (dL C buf S).2.2 y=R) (Hh:kQ B w' bs bt sb C (dL C buf S).1 (dL C buf S).2.1 0 aQ line col (dL C buf S).2.2 bv') (hk:iI bs sb bv bv' w w') (hx:xb≠bs/\xb≠sb/\rb≠bs/\rb≠sb):
 NxSt T C B bs bt sb rb xb aQ line col R w0 bv0 n (dL C buf S).1 (dL C buf S).2.1 (dL C buf S).2.2 bv' y w':=by
 have hf:=zar C buf S hC;have lx:=aA Qv;have lr:=aA qy;refine⟨Hh,YQ.trans hk,(hk.keep xb lx hx.1 hx.2.1 Yb.1).trans Qv,(hk.keep rb lr hx.2.2.1 hx.2.2.2 Yb.2).trans qy,⟨λe=> ?_,λe=> ?_⟩,zo,Ht,hlong,hf.2.1,?_,Ha⟩
 . rcases hk.new xb e with e'|e'
   all_goals grind
 . rcases hk.new rb e with e'|e'
   all_goals grind
 grind
theorem kQ.tok {at2 l2 c2:Int} {g off cap:Nat} {pa:Addr} (h:kQ B w bs bt sb C buf why 0 aQ line col S (τ (some (g.p off)) buf.size cap))
 (Yd:ScAt w' bs bt (Δ 145 (aF sb)) C (τ (some pa) (buf.size-len) (cap-len)) (fN why) (fN 0) at2 l2 c2) (hg:w.g w' bs) (hl:len<=buf.size) (Y5:pa=(g.p (off+len))\/(cap=len/\pa=(g.p off))):
 kQ B w' bs bt sb C (ε buf len buf.size) why 0 at2 l2 c2 S (τ (some pa) (buf.size-len) (cap-len))/\iI bs sb (τ (some (g.p off)) buf.size cap) (τ (some pa) (buf.size-len) (cap-len)) w w':=by
 have hk:∀ b,b<w.heap.size->b≠bs->w'.e w b:=λb hb hn=>hg.block b hb (λe=>hn zg);have ho:=h.own g rfl;have:pa.block=g:=by rcases Y5 with rfl|⟨_,rfl⟩<;>rfl
 have Yb:∀ x,β (Value.slice (some pa) (buf.size-len) (cap-len))=some x->x=g:=λx hx=>by
  have e:some pa.block=some x:=hx
  grind
 refine⟨⟨Yd,(h.buf.cut len hl pa Y5).kept (λx hx=> ?_),h.src.below (λb hb=>hk b (zLd hb h.lt.2.1) (by have:=h.bB;omega)),h.ok,h.bB,λx hx=>zg⟩,⟨hg.os,hg.tape,hg.output,hg.size,λb hb h1 _ _=>hk b hb h1,λx hx=>.inl (by rw[Yb x hx];rfl)⟩⟩;rw[Yb x hx];exact hk g (h.buf.lt g rfl) ho.2
structure Sc where
 buf:η
 why:Nat
 err:Nat
 pos:Int
 line:Int
 col:Int
 src:lN
structure Tk where
 rU:Int
 pos:Int
 line:Int
 col:Int
 text:η
def tk0:Tk:=⟨0,0,0,0,⟨#[]⟩⟩
def jA (T:dX) (C:Nat) (x:Sc):Tk×Nat×Sc:=
 if x.err≠0 then (tk0,x.err,x) else
 match jI T C (C+2) x.buf x.why x.src kY with
 | (.err k,buf,why,S)=>(tk0,k,⟨buf,why,k,x.pos,x.line,x.col,S⟩)
 | (.tok rU len,buf,why,S)=>(⟨rU,x.pos,x.line,x.col,ε buf 0 len⟩,0,⟨ε buf len buf.size,why,0,x.pos+len,(dW (ε buf 0 len) (len+1) 0 x.line x.col).1,(dW (ε buf 0 len) (len+1) 0 x.line x.col).2,S⟩)
def mG (T:dX) (C:Nat):Nat->Sc->List Tk->List Tk×Nat×Sc
 | 0,x,l=>(l,0,x)
 | n+1,x,l=>if (jA T C x).2.1≠0 then (l,(jA T C x).2.1,(jA T C x).2.2) else mG T C n (jA T C x).2.2 (l++[(jA T C x).1])
def qN:List Pc->Nat->Nat
 | [],_=>0
 | p::r,pos=>(p.text.size-pos)+qN r 0
def vO (S:lN):Nat:=qN S.l S.pos
theorem zdI (room:Nat):∀ (l:List Pc) (pos:Nat) (em:Int),(eQ room l pos em).2.1.size+vO (eQ room l pos em).2.2<=qN l pos
 | [],pos,em=>by show (0:Nat)+0<=0;decide
 | p::r,pos,em=>by
  rw[eQ];by_cases c1:pos<p.text.size
  . rw[zP c1]
    show (ε p.text pos _).size+qN (p::r) _<=_
    grind [kZ,qN]
  rw[zN c1]
  split
  . exact zzCN
  split
  . exact zzCN
  split
  . exact zzCN
  split
  . exact zzCN
  split
  . exact zzCN
  have:=zdI room r 0 0
  grind [qN]
theorem ziO (room:Nat) (S:lN):(dV room S).2.2.1.size+vO (dV room S).2.2.2<=vO S:=by
 have h:=zdI room S.l S.pos S.empty;unfold dV;rw[show eQ room S.l S.pos S.empty=yR room S from rfl] at h
 rcases hX:yR room S with⟨X1,X2,X3⟩
 rw[hX] at h;dsimp only at h;unfold vO at h ⊢;cases X1 with
 | ret n e=>
  dsimp only;split
  . show (0:Nat)+qN X3.l X3.pos<=_;omega
  omega
 | pan=>show (0:Nat)+qN X3.l X3.pos<=_;omega
theorem zdz (room:Nat):∀ (k:Nat) (buf:η) (S:lN),(oI room k buf S).1.size+vO (oI room k buf S).2.2<=buf.size+vO S
 | 0,buf,S=>bR
 | k+1,buf,S=>by
  have:=ziO room S;have:=zbo room S;rw[oI];split
  . grind [kZ]
  have:=zdz room k buf (dV room S).2.2.2
  omega
theorem ziL (C:Nat) (buf:η) (S:lN):(dL C buf S).1.size+vO (dL C buf S).2.2<=buf.size+vO S:=zdz _ 8 buf S
def zdZ (x:vD):Prop:=x.long<=x.alive/\(0<=x.rU->1<=x.long)
theorem zbu :∀ (f:Nat) (x:vD),zdZ x->zdZ (dK T s f x)
 | 0,x,h=>h
 | f+1,x,h=>by
  rw[dK];split
  . rename_i hg
    have:=lD hg;refine zbu f _ ?_;unfold nB;split
    . exact⟨bR,λ_=>zg⟩
    exact⟨zT h.1 (Nat.le_add_right _ _),h.2⟩
  omega
theorem uD {T:dX} {C:Nat}:∀ (n:Nat) (buf:η) (why:Nat) (S:lN) (x:vD),x.alive<=buf.size->zdZ x->buf.size<=C->
 (jI T C n buf why S x).2.1.size+vO (jI T C n buf why S x).2.2.2<=buf.size+vO S/\(jI T C n buf why S x).2.1.size<=C/\∀ r len,(jI T C n buf why S x).1=.tok r len->1<=len/\len<=(jI T C n buf why S x).2.1.size
 | 0,buf,why,S,x,hx,hl,hC=>⟨bR,hC,λr len h=>by cases h⟩
 | n+1,buf,why,S,x,hx,hl,hC=>by
  have hr:=uJ (T:=T) (s:=buf) (buf.size+1) x hx;have hL:=zbu (T:=T) (s:=buf) (buf.size+1) x hl;have:=ziL C buf S;have hf:=zar C buf S hC;rw[jI];generalize dK T buf (buf.size+1) x=y at hr hL ⊢;split
  . grind
  split
  . have:=uD (T:=T) (C:=C) n (dL C buf S).1 (dL C buf S).2.1 (dL C buf S).2.2 y zo hL hf.2.1
    grind
  split
  . grind
  rename_i h3
  refine⟨bR,hC,λr len h=> ?_⟩;have hz:0<buf.size:=by
   rcases Nat.eq_zero_or_pos buf.size with h0|h0
   . omega
   exact h0
  have:=pM buf 0 hz;simp only[Nx.tok.injEq] at h;obtain⟨rfl,rfl⟩:=h;have:=hL.1;have:=hL.2
  grind
theorem rO (s:η):∀ (f p:Nat) (line col:Int),1<=line->1<=col->
 1<=(dW s f p line col).1/\(dW s f p line col).1<=line+((s.size-p:Nat):Int)/\1<=(dW s f p line col).2/\(dW s f p line col).2<=col+((s.size-p:Nat):Int)
 | 0,p,line,col,h1,h2=>by simp only[dW];omega
 | f+1,p,line,col,h1,h2=>by
  by_cases h:p<s.size
  . have:=pM s p h
    rw[zax s f p line col h];split
    . have:=rO s f (p+(δ s p).2) (line+1) 1 zo zo
      omega
    have:=rO s f (p+(δ s p).2) line (col+1) h1 zo
    omega
  grind [zbB]
structure xF (M C:Nat) (x:Sc):Prop where
 size:x.buf.size<=C
 pos:0<=x.pos
 line:1<=x.line/\x.line<=x.pos+1
 col:1<=x.col/\x.col<=x.pos+1
 left:x.pos+((x.buf.size+vO x.src:Nat):Int)<=M
theorem za3:zdZ kY:=⟨bR,λh=>by simp[kY] at h⟩
theorem zaV {M:Nat} {x:Sc} (h:xF M C x):xF M C (jA T C x).2.2:=by
 unfold jA;split
 . exact h
 have hf:=uD (T:=T) (C:=C) (C+2) x.buf x.why x.src kY rC za3 h.size
 have hl:=h.line;have hc:=h.col;have:=h.left;have:=h.pos
 rcases hR:jI T C (C+2) x.buf x.why x.src kY with⟨r,buf,why,S⟩
 rw[hR] at hf;dsimp only at hf;cases r with
 | err k=>exact⟨hf.2.1,h.pos,h.line,h.col,zg⟩
 | tok rU len=>
  obtain⟨k1,k2⟩:=hf.2.2 rU len rfl;have hz:(ε buf 0 len).size=len:=by rw[kZ _ _ _ k2];omega
  have:(ε buf len buf.size).size=buf.size-len:=kZ _ _ _ bR;have hb:=rO (ε buf 0 len) (len+1) 0 x.line x.col hl.1 hc.1;rw[hz] at hb;refine⟨zg,zg,⟨hb.1,?_⟩,⟨hb.2.2.1,?_⟩,?_⟩
  all_goals grind
def zgK (bs rb xb:Nat) (f:Nat->Value):Act:={tmps:=(aF bs::f 1:: π rb:: .nilIface:: π xb::f 5::f 6::f 7::f 8::f 9::f 10::f 11::f 12::f 13::f 14::f 15::f 16::f 17::f 18::f 19::f 20::f 21::f 22::f 23::f 24::f 25::f 26::f 27::f 28::f 29::f 30::f 31::f 32::f 33::f 34::f 35::f 36::f 37::f 38::f 39::f 40::f 41::f 42::f 43::f 44::f 45::f 46::f 47::f 48::f 49::f 50::f 51::f 52::f 53::f 54::f 55::f 56::f 57::f 58::f 59::f 60::f 61::f 62::f 63::f 64::f 65::f 66::f 67::f 68::f 69::f 70::f 71::f 72::f 73::f 74::f 75::f 76::f 77::f 78::f 79::f 80::f 81::f 82::f 83::f 84::f 85::f 86::f 87::f 88::f 89::f 90::f 91::f 92::f 93::f 94::f 95::f 96::f 97::f 98::f 99::f 100::f 101::f 102::f 103::f 104::f 105::f 106::f 107::f 108::f 109::f 110::f 111::f 112::f 113::f 114::f 115::f 116::f 117::f 118::f 119::f 120::f 121::f 122::f 123::f 124::f 125::f 126::f 127::f 128::f 129::f 130::f 131::f 132::f 133::f 134::f 135::f 136::f 137::f 138::f 139::f 140::f 141::f 142::[]:ζ).toArray,defers:=[]}
theorem list_getD (t:Array Value) (n:Nat) (hs:t.size=n):t=((List.range n).map (λi=>t.getD i undef)).toArray:=by
 apply Array.ext
 all_goals simp_all
theorem frame_lit (bs rb xb:Nat) (t:Array Value) (hs:t.size=143) (h0:t.getD 0 undef=aF bs) (h2:t.getD 2 undef=π rb) (h3:t.getD 3 undef=.nilIface) (h4:t.getD 4 undef=π xb):
 ({tmps:=t,defers:=[]}:Act)=zgK bs rb xb (λi=>t.getD i undef):=by
 refine (congrArg (λx=>({tmps:=x,defers:=[]}:Act)) (list_getD t 143 hs)).trans ?_;unfold zgK;rw[<-h0,<-h2,<-h3,<-h4];rfl
theorem zem {l:Nat} {J:Act->World->Prop} (h:Q .ret a w):Exit.jump l J Q .ret a w:=h
theorem zfw {l:Nat} {J:Act->World->Prop} (h:J a w):Exit.jump l J Q (.goto l) a w:=⟨rfl,h⟩
def pF (w:ω) (b:Nat) (t:Tk):World:=ς (ς (ς (ς (ς w b.a (ι t.rU)) (b.p 1) (ι t.pos)) (b.p 2) (ι t.line)) (b.p 3) (ι t.col)) (b.p 4) (γ t.text)
theorem mO (w:ω) (b:Nat) (t:Tk):w.grownBy (pF w b t) (some b):=aC (aC (aC (aC (bQ _ _ 0 _) (bQ _ _ 1 _)) (bQ _ _ 2 _)) (bQ _ _ 3 _)) (bQ _ _ 4 _)
theorem rX {b:Nat} {t:Tk} {v0 v1 v2 v3 v4:Value} {ty:TypeId} (h:w.h b #[v0,v1,v2,v3,v4] ty):(pF w b t).h b #[ι t.rU,ι t.pos,ι t.line,ι t.col,γ t.text] ty:=
 aB _ _ 4 _ _ _ _ (aB _ _ 3 _ _ _ _ (aB _ _ 2 _ _ _ _ (aB _ _ 1 _ _ _ _ (aB _ _ 0 _ _ _ _ h))))
structure SwA (C B bs bt sb rb xb k:Nat) (aQ line col:Int) (w:ω) (bv v2:Value) (buf:η) (why:Nat) (S:lN) (y:vD) (W:ω):Prop where
 st:kQ B W bs bt sb C buf why k aQ line col S v2
 kp:iI bs sb bv v2 w W
 res:W.h rb #[ι 0,ι 0,ι 0,ι 0,γ ⟨#[]⟩] 64
 run:iZ W xb y
 tabs:oK W
def SwO (C B bs bt sb rb xb:Nat) (aQ line col:Int) (R:Nx×η×Nat×lN) (w:ω) (bv v2:Value) (buf:η) (why:Nat) (S:lN) (y:vD) (W:ω):Prop:=
 ∃ k,SwA C B bs bt sb rb xb k aQ line col w bv v2 buf why S y W/\((k≠0/\R=(.err k,buf,why,S))\/(k=0/\0<buf.size/\R=(.tok y.rU (if y.rU<0 then (δ buf 0).2 else y.long),buf,why,S)))
theorem zfX (T:dX) (R0:Nat) (hT:yV T R0) (BT B:Nat) (w:ω) (bs bt sb C bc cc br cr bg cg:Nat) (buf:η) (why:Nat) (aQ line col:Int) (S:lN) (bv:Value) (h:kQ B w bs bt sb C buf why 0 aQ line col S bv) (Q8:gM BT w bt T bc cc br cr bg cg) (hTabs:oK w) (hG:jV<=BT) (hBT:BT<=sb) (hC:buf.size<=C) (hC4:4<=C) (hC2:C<=900000)
 (cd:0<=aQ/\aQ<1000000000) (hline:0<=line/\line<1000000000) (hcol:0<=col/\col<1000000000):
 Γ 22 #[aF bs] w (NextO C B bs bt sb aQ line col (jI T C (C+2) buf why S kY) bv w):=by
 have H:=Λ h Q8 hTabs;have vn:=Ψ cd hline hcol (zAi hC (zAi hC4 hC2));have HT:=zh hT;obtain⟨R,hR⟩:=zE (jI T C (C+2) buf why S kY);have HR:=zh hR;rw[<-hR];have:=h.lt;have c5:=zq 5 h.sc;clear h Q8 hTabs cd hline hcol hC hC4 hC2 hT hR;go_in;go_wp2_with fail
 refine zaj (rest:= ?rest) 0 (λn a w'=>∃ (t:Array Value) (buf2:η) (why2:Nat) (S2:lN) (bv2:Value) (x:vD),a={tmps:=t,defers:=[]}/\(t.size=143/\t.getD 0 undef=aF bs/\t.getD 2 undef=π w.t/\t.getD 3 undef=.nilIface/\t.getD 4 undef=π (w.t+1))/\NxSt T C B bs bt sb w.t (w.t+1) aQ line col R w bv n buf2 why2 S2 bv2 x w') ?hf ?pass ?first
 case hf=>rfl
 case pass=>
  intro n a w1 hJ;obtain⟨t,buf2,why2,S2,bv2,x,rfl,⟨t1,t2,t3,t4,t5⟩,Hh⟩:=hJ;rw[frame_lit bs w.t (w.t+1) t t1 t2 t3 t4 t5];generalize (λi=>t.getD i undef)=f;clear t1 t2 t3 t4 t5;unfold zgK;have:=Hh.st.lt;obtain⟨n',rfl⟩:∃ k,n=k+1:=⟨n-1,by have:=Hh.fuel;omega⟩;obtain⟨ao,cap,ZO⟩:∃ ao cap,bv2=τ ao buf2.size cap:=by
   rcases Hh.st.buf with⟨e,h0⟩|⟨g,off,cap,cells,e,_⟩
   . exact⟨none,0,by rw[e,h0]⟩
   exact⟨_,cap,e⟩
  subst ZO;obtain⟨y,hy⟩:=zE (dK T buf2 (buf2.size+1) x);have P8:=vn.o;have:=Hh.size;have:=H.o.1.bB;have EV:∀ g,β bv=some g->BT<=g:=λg hg=>by have:=(H.o.1.own g hg).1;omega
  have vy:Below BT w w1:=Hh.keep.below zo zo hBT EV;have:=aA Hh.run;have NE:=H.o.2.1.below vy;have ah:oK w1:=fD (B:=BT) H.o.2.2 vy hG;have Qv:=run_any T R0 HT.o buf2 zo (buf2.size+1) x w1 BT bs bt bc cc br cr bg cg (w.t+1) _ _ _ _ C aQ line col Hh.st.sc Hh.st.buf.is NE ah hG zo zo zo Hh.own.1 Hh.run Hh.alive Hh.set zo;rw[<-hy] at Qv;have Kz:=zh Qv;have Hl:=zh Hh;have HY:=zh hy
  have Vl:=Θ NE ah;clear Qv Hh hy NE ah vy EV P8;go_upto_region 5 with (go_at_call 42;refine Kz.o.mono ?_;rintro e w2 ⟨rfl,E4,Qp⟩;have QL:=Θ E4 Qp;clear E4 Qp)
  have NU:=uJ (T:=T) (s:=buf2) (buf2.size+1) x Hl.o.alive;rw[<-HY.o] at NU;have AO:=zh3 HT.o (s:=buf2) (buf2.size+1) x Hl.o.set;rw[<-HY.o] at AO;have aw:=zfS (T:=T) (s:=buf2) (buf2.size+1) x Hl.o.long;rw[<-HY.o] at aw;have Kc:=Hl.o.st.grown QL.o.2 zo zo Hl.o.own.1;have Oi:=Hl.o.keep.grown QL.o.2 zo;have E0:=(QL.o.2.block w.t (aA Hl.o.res) (λe=>by injection e with e;omega)).trans Hl.o.res
  have UI:Below BT w1 w2:=⟨QL.o.2.os,QL.o.2.tape,QL.o.2.output,QL.o.2.size,λb hb=>QL.o.2.block b zo (λe=>by injection e with e;omega)⟩;have JG:=Vl.o.1.below UI;have am:oK w2:=fD (B:=BT) Vl.o.2 UI hG;obtain⟨x0,x1,x2,x3⟩:=QL.o.1.cells;have lx2:=aA QL.o.1
  have EW:∀ w',w2.u w'->Γ 43 #[aF bs,.agg #[ι y.set,ι y.alive,ι y.long,ι y.rU]] w' λe w''=>e=ρ (ι (qT T buf2 y.set y.alive))/\w'.u w'':=λw' hb=>by
   have xx:=Kc.below hb;have Qy:Below BT w2 w':=hb.mono (by have:=Kc.lt;omega);exact part_any T R0 HT.o buf2 (by have:=Hl.o.size;have:=vn.o;omega) y w' BT bs bt bc cc br cr bg cg _ _ _ _ C aQ line col xx.sc xx.buf.is (JG.below Qy) (fD (B:=BT) am Qy hG) hG (by have:=Kc.lt;have:=hb.size;omega) NU.1 AO
  have Ec:=zh EW;have Kb:∀ w',w2.u w'->w2.u w'/\w'.i (w.t+1) 0 y.set/\w'.i (w.t+1) 1 y.alive/\w'.i (w.t+1) 2 y.long/\w'.i (w.t+1) 3 y.rU:=λw' hb=>
   ⟨hb,(aG hb ⟨w.t+1,0,none⟩ lx2).trans x0,(aG hb ⟨w.t+1,1,none⟩ lx2).trans x1,(aG hb ⟨w.t+1,2,none⟩ lx2).trans x2,(aG hb ⟨w.t+1,3,none⟩ lx2).trans x3⟩
  have YZ:=zh Kb;have X5:IntKind.i64.wrap ((y.alive:Int)+(qT T buf2 y.set y.alive:Int))=(dU T buf2 y:Int):=by
   have h1:=zay (T:=T) (s:=buf2) (x:=y) NU.1;have h2:=Hl.o.size;have h3:=vn.o;unfold dU at h1 ⊢;rw[lM];push_cast;rfl
  have H2:=Ψ Kc Oi E0 (zAi JG am);have mg:=Λ NU AO aw;clear Kc Oi E0 UI JG am x0 x1 x2 x3 EW Kb NU AO aw
  go_region_held3 (λw'=>w2.u w'/\w'.i (w.t+1) 0 y.set/\w'.i (w.t+1) 1 y.alive/\w'.i (w.t+1) 2 y.long/\w'.i (w.t+1) 3 y.rU) (first|exact YZ.o _ iM.drew|exact YZ.o _ qz.o) (first|(go_at_call 43;refine (Ec.o _ zzBx).mono ?_;rintro e w3 ⟨rfl,Hu⟩;have qz:=zh (bI zzBx Hu (Below.size zzBx)))|(go_at_call 43;refine (Ec.o _ (iM.drew)).mono ?_;rintro e w3 ⟨rfl,Hu⟩;have qz:zH (w2.u w3):=zh (⟨Hu.os,Hu.tape,Hu.output,Hu.size,Hu.block⟩)))
  have Hu:=qz.o;have Jp:=H2.o.1.below Hu;have Oj:=H2.o.2.1.trans (iI.of_below Hu);have E3:=(Hu.block w.t (aA H2.o.2.2.1)).trans H2.o.2.2.1;have AF:iZ w3 (w.t+1) y:=(Hu.block _ lx2).trans QL.o.1;have E9:=H2.o.2.2.2.1.below (Hu.mono (by have:=H2.o.1.lt;omega):Below BT w2 w3);have ar:oK w3:=fD (B:=BT) H2.o.2.2.2.2 (Hu.mono (by have:=H2.o.1.lt;omega)) hG;have s2:=zq 2 Jp.sc;have s3:=zq 3 Jp.sc;have s4:=zq 4 Jp.sc
  have s5:=zq 5 Jp.sc;obtain⟨x0,x1,x2,x3⟩:=AF.cells;have lbs3:=aA Jp.sc;have lx3:=aA AF;have Rh:buf2.size<1000000:=by have:=Hl.o.size;have:=vn.o;omega
  have x9:zH (∀ w',w3.u w'->Γ 45 #[τ ao buf2.size cap] w' λe w''=>e=ρ (φ (fY buf2 0))/\w'.u w''):=zh λw' hb=>by
   have Qy:Below BT w3 w':=hb.mono (by have:=H2.o.1.lt;have:=Hu.size;omega);exact full_buf buf2 Rh ao cap w' (fD (B:=BT) ar Qy hG) ((Jp.below hb).buf.is)
  have qy:=Hl.o.rest;rw[jI,<-HY.o] at qy;have QM:=zh qy;have Mv:dU T buf2 y<=buf2.size:=zay mg.o.1.1;have H3:=Ψ Jp Oj E3 (zAi AF (zAi E9 ar));have ve:=zh Mv;rw[kD] at s5;have fz5:=zF 5 H3.o.1.sc;clear Hu Jp Oj E3 AF E9 ar qy X5 Mv;generalize hA:dU T buf2 y=A at*;have HA:=zh hA;clear hA
  have Lf:zH (∀ W,w3.u W->SwA C B bs bt sb w.t (w.t+1) 0 aQ line col w bv (τ ao buf2.size cap) buf2 why2 S2 y W):=zh λW h3=>
   ⟨H3.o.1.below h3,H3.o.2.1.trans (iI.of_below h3),(h3.block w.t (aA H3.o.2.2.1)).trans H3.o.2.2.1,(h3.block _ (aA H3.o.2.2.2.1)).trans H3.o.2.2.2.1,fD (B:=BT) H3.o.2.2.2.2.2 (h3.mono (by have:=H3.o.1.lt;omega)) hG⟩
  have Vx:zH (∀ W k,w3.u W->k≠0->R=(.err k,buf2,why2,S2)->SwO C B bs bt sb w.t (w.t+1) aQ line col R w bv (τ ao buf2.size cap) buf2 why2 S2 y (W.setCell (bs.p 5) (Δ 86 (ι k)))):=zh λW k hb hk hR=>by
   obtain⟨a1,a2,a3,a4,a5⟩:=Lf.o W hb;have e:=jE hk;have hs:=a1.setErr k;rw[e] at hs;have hg:Below BT W (W.setCell (bs.p 5) (Δ 86 (ι k))):=iM.setCell (p:=((bs.p 5):Addr)) (by have:=a1.bB;show BT<=bs;omega) _;exact⟨k,⟨hs,a2.trans (iI.set (bs:=bs) (sb:=sb) (o:=5) (w:=W) _),(aD W (bs.p 5) _ w.t (by show w.t≠bs;omega)).trans a3,(aD W (bs.p 5) _ (w.t+1) (by show w.t+1≠bs;omega)).trans a4,fD (B:=BT) a5 hg hG⟩,.inl ⟨hk,hR⟩⟩
  have V0:zH (∀ W,w3.u W->0<buf2.size->R=(.tok y.rU (if y.rU<0 then (δ buf2 0).2 else y.long),buf2,why2,S2)->SwO C B bs bt sb w.t (w.t+1) aQ line col R w bv (τ ao buf2.size cap) buf2 why2 S2 y W):=zh λW hb h0 hR=>⟨0,Lf.o W hb,.inr ⟨rfl,h0,hR⟩⟩
  have Vw:zH (∀ W,w3.u W->W.i bs 2 C/\W.v bs 3 (τ ao buf2.size cap)/\W.v bs 4 (fN why2)/\W.v bs 5 .nilIface/\W.i (w.t+1) 3 y.rU/\W.q bs 5/\bs<W.t/\w.heap.size+1<W.heap.size):=zh λW hb=>
   ⟨(aG hb (bs.p 2) lbs3).trans s2,(aG hb (bs.p 3) lbs3).trans s3,(aG hb (bs.p 4) lbs3).trans s4,(aG hb (bs.p 5) lbs3).trans s5,(aG hb ⟨w.t+1,3,none⟩ lx3).trans x3,
    zF 5 ((hb.block bs lbs3).trans H3.o.1.sc),zLd lbs3 hb.size,zLd lx3 hb.size⟩
  have Yy:zH (w3.u w3):=zh iM;obtain⟨d,hd⟩:=zE (decide (why2=13));have Dr:=is_err why2 w3;rw[<-hd] at Dr;have HIS:=zh Dr;have p8:=zh hd
  have VW:zH (∀ W bv9,w3.u W->why2=0->buf2.size<C->jI T C n' (dL C buf2 S2).1 (dL C buf2 S2).2.1 (dL C buf2 S2).2.2 y=R->∀ w9,kQ B w9 bs bt sb C (dL C buf2 S2).1 (dL C buf2 S2).2.1 0 aQ line col (dL C buf2 S2).2.2 bv9->iI bs sb (τ ao buf2.size cap) bv9 W w9->NxSt T C B bs bt sb w.t (w.t+1) aQ line col R w bv n' (dL C buf2 S2).1 (dL C buf2 S2).2.1 (dL C buf2 S2).2.2 bv9 y w9):=zh λW bv9 hb h0 hC hr w9 k1 k2=>by
   obtain⟨a1,a2,a3,a4,a5⟩:=Lf.o W hb;have X7:=Hl.o.fuel;rw[zP h0] at X7;exact NxSt.more a2 a4 a3 Hl.o.own mg.o.1.1 mg.o.2.1 mg.o.2.2 Hl.o.size zo hr k1 k2 zo
  have us:zH (∀ W,w3.u W->why2=0->buf2.size<C->Γ 46 #[aF bs] W (MoreO B bs bt sb C (dL C buf2 S2) 0 aQ line col (τ ao buf2.size cap) W)):=zh λW hb h0 hC=>by
   have h:=(Lf.o W hb).1;rw[h0] at h;exact more_any B W bs bt sb C buf2 0 0 aQ line col S2 (τ ao buf2.size cap) h hC (by have:=vn.o;omega)
  clear Dr hd
  go_upto_block 0 with (go_at_call 44;refine HIS.o.mono ?_;rintro e w' ⟨rfl,hw⟩;obtain rfl:=hw.symm)
  go_cut [] (λwx=>SwO C B bs bt sb w.t (w.t+1) aQ line col R w bv (τ ao buf2.size cap) buf2 why2 S2 y wx)
  case first=>
   have JF:¬ A=buf2.size->0<buf2.size:=λh=>by have h1:=ve.o;have h2:=HA.o;omega
   by_cases hC:C<=A
   . have:=zu C A
     have HE:=zh (Vx.o w3 10 Yy.o zd (by have h:=QM.o;rw[zP hC] at h;exact h.symm));go_wp2;go_meet;exact HE.o
   have:¬ (C:Int)<=(A:Int):=zo
   by_cases ju:why2=0
   . have e:d=false:=by rw[p8.o,ju];rfl
     subst e;subst ju;rw[kD] at s4;by_cases hs:A=buf2.size
     . have CC:((A:Int)==(buf2.size:Int))=true:=zx
       have Y9:=zh (us.o w3 Yy.o (by trivial) zo);go_wp2_with (first|(go_at_call 46;refine Y9.o.mono ?_;rintro e w9 ⟨rfl,bv9,NB,U7⟩;have H9:=Θ NB U7;clear NB U7));refine wp_goto ?_;simp only[Exit.inBlock,Exit.then];refine zfw ?_
       exact⟨n',Nat.lt_succ_self _,_,(dL C buf2 S2).1,(dL C buf2 S2).2.1,(dL C buf2 S2).2.2,bv9,y,rfl,⟨rfl,rfl,rfl,rfl,rfl⟩,VW.o w3 bv9 Yy.o (by trivial) zo (by have Tb:=QM.o;rwa [zN hC,zP (.inl ⟨hs,by trivial⟩)] at Tb) w9 H9.o.1 H9.o.2⟩
     have CC:((A:Int)==(buf2.size:Int))=false:=zx
     have Cw:=JF hs;have JH:((buf2.size:Int)==0)=false:=by rw[beq_eq_false_iff_ne];omega
     by_cases hr:y.rU<0
     . cases hf:fY buf2 0 with
       | false=>
        have HF:=zh hf;clear hf;go_upto_region 11 with (go_at_call 45;refine (x9.o _ Yy.o).mono ?_;rintro e w4 ⟨rfl,tV⟩;rw[HF.o];have vm:zH (w3.u w4):=zh (bI Yy.o tV Yy.o.size);obtain⟨w42,w43,w44,w45,w4x3,w4f5,w4lb,w4lx⟩:=Vw.o w4 vm.o;rw[kD] at w44;clear tV)
        have Y9:=zh (us.o w4 vm.o (by trivial) zzCI);go_wp2_with (first|(go_at_call 46;refine Y9.o.mono ?_;rintro e w9 ⟨rfl,bv9,NB,U7⟩;have H9:=Θ NB U7;clear NB U7));refine wp_goto ?_;simp only[Exit.inBlock,Exit.then];refine zfw ?_
        exact⟨n',Nat.lt_succ_self _,_,(dL C buf2 S2).1,(dL C buf2 S2).2.1,(dL C buf2 S2).2.2,bv9,y,rfl,⟨rfl,rfl,rfl,rfl,rfl⟩,VW.o w4 bv9 vm.o (by trivial) zzCI (by have Tb:=QM.o;rwa [zN hC,zP (.inr ⟨hr,by trivial,HF.o⟩)] at Tb) w9 H9.o.1 H9.o.2⟩
       | true=>
        have HF:=zh hf;clear hf;have HE:=zh (λW hb=>V0.o W hb Cw (by
         have h:=QM.o;rw[zN hC,zN (by rintro (h9|h9);exact hs h9.1;rw[HF.o] at h9;exact absurd h9.2.2 zd),zN (by rintro (h9|h9|h9);exact hs h9.1;(rw[HF.o] at h9;exact absurd h9.2.2 zd);omega)] at h;exact h.symm))
        go_wp2_with (first|(go_at_call 45;refine (x9.o _ Yy.o).mono ?_;rintro e w4 ⟨rfl,tV⟩;rw[HF.o];have vm:zH (w3.u w4):=zh (bI Yy.o tV Yy.o.size);obtain⟨w42,w43,w44,w45,w4x3,w4f5,w4lb,w4lx⟩:=Vw.o w4 vm.o;rw[kD] at w44;clear tV)|(go_at_call 45;refine (x9.o _ vm.o).mono ?_;rintro e w5 ⟨rfl,tV⟩;rw[HF.o];have Lm:zH (w3.u w5):=zh (bI vm.o tV vm.o.size);obtain⟨w52,w53,w54,w55,w5x3,w5f5,w5lb,w5lx⟩:=Vw.o w5 Lm.o;rw[kD] at w54;clear tV))
        go_meet;exact HE.o _ Lm.o
     have HE:=zh (λW hb=>V0.o W hb Cw (by
      have h:=QM.o;rw[zN hC,zN (by rintro (h9|h9);exact hs h9.1;omega),zN zzDW] at h;exact h.symm))
     go_wp2;go_meet;exact HE.o _ Yy.o
   . rw[jE ju] at s4
     have QR:¬ ((A=buf2.size/\why2=0)\/(y.rU<0/\why2=0/\fY buf2 0=false)):=by rintro (h9|h9);exact ju h9.2;exact ju h9.2.1
     have wL:=zh (λW hb h9=>Vx.o W why2 hb ju (by have h:=QM.o;rw[zN hC,zN QR,zP h9] at h;exact h.symm));have Sa:=zh (λW hb h0 h9=>V0.o W hb h0 (by have h:=QM.o;rw[zN hC,zN QR,zN h9] at h;exact h.symm));clear QR;by_cases hs:A=buf2.size
     . have CC:((A:Int)==(buf2.size:Int))=true:=zx
       have HS:=zh hs;clear hs;cases d with
       | false=>
        have Je:why2≠13:=of_decide_eq_false p8.o.symm;have HE:=zh (wL.o w3 Yy.o (.inl ⟨HS.o,Je⟩));exact zzCT
       | true=>
        have Je:why2=13:=of_decide_eq_true p8.o.symm;by_cases hz:buf2.size=0
        . have JH:((buf2.size:Int)==0)=true:=by rw[hz];rfl
          have HE:=zh (wL.o w3 Yy.o (.inr (.inr hz)));clear hz Je;exact zzCT
        have JH:((buf2.size:Int)==0)=false:=by rw[beq_eq_false_iff_ne];omega
        have HE:=zh (Sa.o w3 Yy.o zo zzC4);clear Je;exact zzCT
     . have CC:((A:Int)==(buf2.size:Int))=false:=zx
       have Cw:=JF hs;have JH:((buf2.size:Int)==0)=false:=by rw[beq_eq_false_iff_ne];omega
       by_cases hr:y.rU<0
       . cases d with
         | true=>
          have Je:why2=13:=of_decide_eq_true p8.o.symm;have HE:=zh (Sa.o w3 Yy.o Cw zzC4);clear Je;go_wp2;go_meet;exact HE.o
         | false=>
          have Je:why2≠13:=of_decide_eq_false p8.o.symm;have Ei:=zh ju;cases hf:fY buf2 0 with
          | false=>
           have HF:=zh hf;have HE:=zh (λW hb=>wL.o W hb (.inr (.inl ⟨hr,Je,hf⟩)));exact zzAn
          | true=>
           have HF:=zh hf;have HE:=zh (λW hb=>Sa.o W hb Cw (by rintro (h9|h9|h9);exact hs h9.1;(rw[hf] at h9;exact absurd h9.2.2 zd);omega));exact zzAn
       . have HE:=zh (Sa.o w3 Yy.o Cw zzDW)
         go_wp2;go_meet;exact HE.o
  case rest=>
   clear s2 s3 s4 s5 x0 x1 x2 x3 lbs3 lx3 fz5 x9 QM ve HA Lf Vx V0 Vw Yy HIS p8 VW us;obtain⟨k,hE,⟨YQ,hR⟩|⟨YQ,hz,hR⟩⟩:=hcut
   . have HE:=zh hE
     have Km:=zh hR;clear hE hR;have e5:=zq 5 HE.o.st.sc;rw[jE YQ] at e5;have Ys:=HE.o.res;have q0:=zq 0 Ys;have q1:=zq 1 Ys;have q2:=zq 2 Ys;have q3:=zq 3 Ys;have q4:=zq 4 Ys;have r0:=zF 0 Ys;have r1:=zF 1 Ys
     have r2:=zF 2 Ys;have r3:=zF 3 Ys;have r4:=zF 4 Ys;clear Ys;go_upto_region 17 with fail
     refine zzAl ?_;refine bV (λw'=>w'.v bs 5 (Δ 86 (ι k))) 6 zK e5 (λHc=> ?_);refine zzAD ?_;refine bY 5 (λK hK=> ?_);go_simp;obtain⟨wR,pw⟩:=zE ((pF wc w.t ⟨0,0,0,0,⟨#[]⟩⟩).drew);have KW:wc.g wR w.t:=by rw[pw];exact aM (mO _ _ _) 1
     have Ka:wR.h w.t #[ι 0,ι 0,ι 0,ι 0,γ ⟨#[]⟩] 64:=by rw[pw];exact rX HE.o.res
     change K _ (pF wc w.t ⟨0,0,0,0,⟨#[]⟩⟩).drew;rw[<-pw];clear pw;have Rt:wR.v bs 5 (Δ 86 (ι k)):=(World.cell?_of_block (KW.block bs (by have:=HE.o.st.lt;omega) (λe=>by injection e with e;omega))).trans e5;have Qw:=Θ KW Ka;refine hK.out _ _ (λ_=>Rt) ?_;clear hK K KW Ka q0 q1 q2 q3 q4 r0 r1 r2 r3 r4;refine zzAF ?_;refine bY 6 (λK hK=> ?_);go_simp;refine hK.out _ _ (λh=>absurd rfl h) ?_;clear hK K
     refine zzAF ?_;refine dB zK ?_;refine NoPanic.normal ?_;go_wp2;have z0:=zq 0 Qw.o.2;have z1:=zq 1 Qw.o.2;have z2:=zq 2 Qw.o.2;have z3:=zq 3 Qw.o.2;have z4:=zq 4 Qw.o.2;refine zem ?_
     refine bodyPost_ret (v:=ϕ #[.agg #[ι 0,ι 0,ι 0,ι 0,γ ⟨#[]⟩],Δ 86 (ι k)]) zzDR rfl ?_;rw[Km.o];exact⟨by rw[jE YQ],τ ao buf2.size cap,HE.o.st.grown Qw.o.1 zo zo Hl.o.own.2,HE.o.kp.grown Qw.o.1 bR⟩
   . subst YQ
     have HE:=zh hE;have Km:=zh hR;clear hE hR;have b3:=zq 3 HE.o.st.sc;have b5:=zq 5 HE.o.st.sc;rw[kD] at b5;obtain⟨x0,x1,x2,x3⟩:=HE.o.run.cells;have lxb:=aA HE.o.run;obtain⟨g,off,rfl⟩:∃ g off,ao=some (⟨g,off,none⟩:Addr):=by
      rcases HE.o.st.buf with⟨e,h0⟩|⟨g,off,c',cells,e,_⟩
      . omega
      cases e;exact⟨g,off,rfl⟩
     have Vq:g≠bs:=(HE.o.st.own g rfl).2;have kv:∀ W z,SwA C B bs bt sb w.t (w.t+1) 0 aQ line col w bv (τ (some (g.p off)) buf2.size cap) buf2 why2 S2 z W->buf2.size<=cap/\g<W.t/\∀ i,i<buf2.size->W.v g (off+i) (.int .u8 (bL buf2 i)):=λW z hW=>by
      rcases hW.st.buf.is with⟨e,h0⟩|⟨g',off',c',e,h1,h2,h3⟩
      . cases e
      cases e;exact⟨h1,h2,h3⟩
     have YO:=zdo buf2 0 g off cap wc hz HE.o.tabs (kv wc y HE.o).2.2;simp only[Nat.add_zero,Nat.sub_zero] at YO;have XR:=pM buf2 0 hz;obtain⟨kk,SH⟩:=zE ((δ buf2 0).2);rw[<-SH] at Km YO XR;have BR:=zh YO;have HBI:=zh kv;have HYL:=zh mg.o;clear YO SH kv;go_upto_if 130 with fail
     go_cut [] (λwx=>∃ long,long<=buf2.size/\R=(.tok y.rU long,buf2,why2,S2)/\SwA C B bs bt sb w.t (w.t+1) 0 aQ line col w bv (τ (some (g.p off)) buf2.size cap) buf2 why2 S2 ⟨y.set,y.alive,long,y.rU⟩ wx)
     case first=>
      by_cases hr:y.rU<0
      . rw[zP hr] at Km
        go_wp2_with (go_at_call 47;refine BR.o.mono ?_;rintro e wd ⟨rfl,xu⟩;have YX:=zh xu;have:=zF 2 ((xu.block _ lxb).trans HE.o.run);have:=(aG xu ⟨w.t+1,2,none⟩ lxb).trans x2;clear xu);go_meet;have xu:=YX.o;have EZ:iZ wd (w.t+1) y:=(xu.block _ lxb).trans HE.o.run;have dh:wd.grownBy (ς wd ⟨w.t+1,2,none⟩ (ι kk)) (some (w.heap.size+1)):=bQ _ _ 2 _;have Tb:=(xu.block w.t (aA HE.o.res)).trans HE.o.res
        exact⟨kk,zo,Km.o,(HE.o.st.below xu).grown dh zo zo Hl.o.own.1,(HE.o.kp.trans (iI.of_below xu)).grown dh zo,(dh.block w.t (aA Tb) (λe=>by injection e with e;omega)).trans Tb,aB _ _ 2 _ _ _ _ EZ,fD (B:=BT) HE.o.tabs ((xu.mono (by have:=HE.o.st.lt;omega):Below BT wc wd).setCell (p:=(⟨w.t+1,2,none⟩:Addr)) (by show BT<=w.t+1;omega) _) hG⟩
      . rw[zN hr] at Km
        go_wp2;go_meet;exact⟨y.long,by have h8:=HYL.o.2.2;have h9:=HYL.o.1.1;omega,Km.o,HE.o⟩
     case rest=>
      clear x0 x1 x2 x3 b3 b5 lxb HE Km BR;obtain⟨long,qo,hR,hX⟩:=hcut;have HX:=zh hX;have Km:=zh hR;have XN:=HBI.o _ _ HX.o;have NH:=token_any buf2 Rh ⟨y.set,y.alive,long,y.rU⟩ wc bs bt g off cap _ _ _ C aQ line col HX.o.st.sc XN.1 XN.2.1 Vq XN.2.2 qo vn.o.1 vn.o.2.1 vn.o.2.2.1;have VG:=zh NH;obtain⟨c0,c1,c2,c3⟩:=HX.o.run.cells;have:=aA HX.o.run;have lqX:=aA HX.o.res;clear NH XN hX hR
      go_wp2_with (first|(go_at_call 48;refine VG.o.mono ?_;rintro e w7 ⟨rfl,Dn,pa,Y5,r8⟩;have T6:=(Dn.block w.t lqX (λe=>by injection e with e;omega)).trans HX.o.res;have q0:=zq 0 T6;have q1:=zq 1 T6;have q2:=zq 2 T6;have q3:=zq 3 T6;have q4:=zq 4 T6;have r0:=zF 0 T6;have r1:=zF 1 T6;have r2:=zF 2 T6;have r3:=zF 3 T6;have r4:=zF 4 T6;have H7:=Ψ Dn Y5 r8 T6;clear Dn Y5 r8 T6))
      have KW:=mO w7 w.t ⟨y.rU,aQ,line,col,ε buf2 0 long⟩;have Ka:=rX (t:=⟨y.rU,aQ,line,col,ε buf2 0 long⟩) H7.o.2.2.2;refine zem (w:=pF w7 w.t ⟨y.rU,aQ,line,col,ε buf2 0 long⟩) ?_;generalize pF w7 w.heap.size ⟨y.rU,aQ,line,col,ε buf2 0 long⟩=wR at KW Ka ⊢;have z0:=zq 0 Ka;have z1:=zq 1 Ka;have z2:=zq 2 Ka;have z3:=zq 3 Ka;have z4:=zq 4 Ka
      refine bodyPost_ret (v:=ϕ #[.agg #[ι y.rU,ι aQ,ι line,ι col,γ (ε buf2 0 long)],.nilIface]) zzDR rfl ?_;rw[Km.o];have Hg:=HX.o.st.tok H7.o.2.2.1 H7.o.1 qo H7.o.2.1;have hpab:∀ x,x=w.heap.size->β (Value.slice (some pa) (buf2.size-long) (cap-long))≠some x:=λx hx e=>by
       have h8:=Hg.2.new x e
       rcases h8 with h8|h8
       . exact Hl.o.own.2 (by rw[<-hx];exact h8)
       omega
      exact⟨rfl,_,Hg.1.grown KW zo zo (hpab _ rfl),(HX.o.kp.trans Hg.2).grown KW bR⟩
 case first=>
  intro Ni;rw[kD] at c5;go_wp2
  go_step3
  rename_i qq kk hk;have V3:w.u (κ (κ w (Ω #[ι 0,ι 0,ι 0,ι 0,γ ⟨#[]⟩] 64)) (Ω #[ι 0,ι 0,ι 0,ι (-1)] 127)):=(Ξ w _).alloc zs _
  have Xm:(κ (κ w (Ω #[ι 0,ι 0,ι 0,ι 0,γ ⟨#[]⟩] 64)) (Ω #[ι 0,ι 0,ι 0,ι (-1)] 127)).h w.t #[ι 0,ι 0,ι 0,ι 0,γ ⟨#[]⟩] 64:=(bS _ _ _ zs).trans (bA _ _ _ rfl);have AN:iZ (κ (κ w (Ω #[ι 0,ι 0,ι 0,ι 0,γ ⟨#[]⟩] 64)) (Ω #[ι 0,ι 0,ι 0,ι (-1)] 127)) (w.t+1) kY:=bA _ _ _ zs
  have qh:=H.o.1.buf.lt;have hJ:NxSt T C B bs bt sb w.t (w.t+1) aQ line col R w bv (C+2) buf why S bv kY (κ (κ w (Ω #[ι 0,ι 0,ι 0,ι 0,γ ⟨#[]⟩] 64)) (Ω #[ι 0,ι 0,ι 0,ι (-1)] 127)):=
   ⟨H.o.1.below V3,iI.of_below V3,AN,Xm,⟨λe=>by have:=qh _ e;omega,λe=>by have:=qh _ e;omega⟩,rC,HT.o.some',bR,vn.o.2.2.2.1,by split<;>omega,HR.o.symm⟩
  simp only[Exit.then];refine hk _ _ ?_;refine Ni (C+2) _ _ ⟨_,buf,why,S,bv,kY,rfl,?_,hJ⟩;exact⟨rfl,rfl,rfl,rfl,rfl⟩
abbrev ScX (B:Nat) (w:ω) (bs bt sb C:Nat) (x:Sc) (bv:Value):Prop:=kQ B w bs bt sb C x.buf x.why x.err x.pos x.line x.col x.src bv
def tkV (t:Tk):Value:=.agg #[ι t.rU,ι t.pos,ι t.line,ι t.col,γ t.text]
def NextSO (C B bs bt sb:Nat) (R:Tk×Nat×Sc) (bv:Value) (w:ω) (e:Ending) (w':ω):Prop:=
 e=ρ (ϕ #[tkV R.1,fN R.2.1])/\∃ bv',ScX B w' bs bt sb C R.2.2 bv'/\iI bs sb bv bv' w w'
theorem zgH (B:Nat) (w:ω) (bs bt sb C:Nat) (x:Sc) (bv:Value) (h:ScX B w bs bt sb C x bv) (hx:x.err≠0):
 Γ 22 #[aF bs] w (NextSO C B bs bt sb (tk0,x.err,x) bv w):=by
 have c5:=zq 5 h.sc;rw[jE hx] at c5;have:=h.lt.2.2.1;have H:=Θ h hx;clear h hx;go_in;go_wp2;refine zaj (rest:= ?rest) 0 (λ_ _ _=>False) ?hf ?pass ?first
 case hf=>rfl
 case pass=>intro n a w1 hJ;exact hJ.elim
 case first=>
  intro Ni;clear Ni;go_wp2;go_region_with fail
  all_goals go_wp2
  all_goals refine zem ?_
  all_goals refine bodyPost_ret (v:=ϕ #[.agg #[ι 0,ι 0,ι 0,ι 0,γ ⟨#[]⟩],Δ 86 (ι x.err)]) (by simp[Act.put,results,results22,go_sem]) rfl ?_
  all_goals refine⟨by rw[jE H.o.2];rfl,bv,H.o.1.below ?_,iI.of_below ?_⟩
  all_goals exact (Ξ w _).drew
theorem zcy (T:dX) (R0:Nat) (hT:yV T R0) (BT B:Nat) (w:ω) (bs bt sb C bc cc br cr bg cg M:Nat) (x:Sc) (bv:Value) (h:ScX B w bs bt sb C x bv) (Q8:gM BT w bt T bc cc br cr bg cg) (hTabs:oK w) (hG:jV<=BT) (hBT:BT<=sb) (hC4:4<=C) (hC2:C<=900000) (hw:xF M C x) (hM:M<=100000000):
 Γ 22 #[aF bs] w (NextSO C B bs bt sb (jA T C x) bv w):=by
 by_cases hx:x.err=0
 . have:=hw.left
   have:=hw.line;have:=hw.col;have:=hw.pos;have hn:kQ B w bs bt sb C x.buf x.why 0 x.pos x.line x.col x.src bv:=by rw[<-hx];exact h
   refine (zfX T R0 hT BT B w bs bt sb C bc cc br cr bg cg x.buf x.why x.pos x.line x.col x.src bv hn Q8 hTabs hG hBT hw.size hC4 hC2 zo zo zo).mono ?_;intro e w' ho;unfold jA;rw[zN zo];generalize jI T C (C+2) x.buf x.why x.src kY=R at ho ⊢
   rcases R with⟨r,buf,why,S⟩
   cases r with
   | err k=>exact ho
   | tok rU len=>exact ho
 unfold jA
 rw[zP hx];exact zgH B w bs bt sb C x bv h hx
def bO:List Pc->Nat->Int->Nat->η×Nat
 | [],_,_,_=>(ByteArray.empty,13)
 | p::r,pos,em,k=>
  if pos<p.text.size then
   (if p.kind=5 then (ε p.text pos p.text.size,14)
    else if 8<=0+(p.n-em).toNat then (ε p.text pos p.text.size,12)
    else if p.kind=1 then (ε p.text pos p.text.size,14)
    else if p.kind=2\/p.kind=3\/p.kind=4 then (ε p.text pos p.text.size,11)
    else (ε p.text pos p.text.size++(bO r 0 0 (0+(p.n-em).toNat)).1,(bO r 0 0 (0+(p.n-em).toNat)).2))
  else if 8<=k+(p.n-em).toNat then (ByteArray.empty,12)
  else if p.kind=1\/p.kind=5 then (ByteArray.empty,14)
  else if p.kind=2\/p.kind=3\/p.kind=4 then (ByteArray.empty,11)
  else bO r 0 0 (k+(p.n-em).toNat)
def rN (S:lN) (k:Nat):η×Nat:=bO S.l S.pos S.empty k
theorem uL:∀ (l:List Pc) (pos:Nat) (em:Int) (k:Nat),(bO l pos em k).2≠0
 | [],_,_,_=>by simp[bO]
 | p::r,pos,em,k=>by
  have h0:=uL r 0 0 (0+(p.n-em).toNat);have hk:=uL r 0 0 (k+(p.n-em).toNat);exact zzDs
theorem zeQ (p:Pc) (r:List Pc) (pos q:Nat) (em:Int) (k:Nat) (hp:pos<p.text.size) (hq:pos<q) (Vs:q<=p.text.size) (h5:¬ (p.kind=5/\q=p.text.size)):
 bO (p::r) pos em k=(ε p.text pos q++(bO (p::r) q em 0).1,(bO (p::r) q em 0).2):=by
 have he:ε p.text pos q++ε p.text q p.text.size=ε p.text pos p.text.size:=by
  rw[ByteArray.extract_append_extract];congr 1<;>omega
 by_cases Hf:q<p.text.size
 . rw[bO,bO,zP hp,zP Hf]
   repeat' split
   all_goals simp only[<-ByteArray.append_assoc,he]
 obtain rfl:q=p.text.size:=by omega
 have h5':¬ p.kind=5:=λe=>h5 ⟨e,rfl⟩;rw[bO,bO,zP hp,zN (by omega:¬ p.text.size<p.text.size),zN h5'];by_cases c1:8<=0+(p.n-em).toNat
 . rw[zP c1,zP c1];simp
 rw[zN c1,zN c1]
 by_cases c2:p.kind=1
 . rw[zP c2,zP (.inl c2)];simp
 rw[zN c2,zN (show ¬ (p.kind=1\/p.kind=5) from λe=>e.elim c2 h5')]
 by_cases c3:p.kind=2\/p.kind=3\/p.kind=4
 . rw[zP c3,zP c3];simp
 rw[zN c3,zN c3]
def zeZ (st:η×Nat) (k:Nat) (R:Nat×Nat×η×lN):Prop:=
 if R.2.1≠0 then st=(ε R.2.2.1 0 R.1,R.2.1)
 else if 0<R.1 then st=(ε R.2.2.1 0 R.1++(rN R.2.2.2 0).1,(rN R.2.2.2 0).2)
 else if k+1=8 then st=(ByteArray.empty,12) else st=rN R.2.2.2 (k+1)
def zhO (room:Nat):Rd×η×lN->Nat×Nat×η×lN
 | (.ret n e,b,S')=>if n<0\/(room:Int)<n then (0,11,⟨#[]⟩,S') else (n.toNat,e,b,S')
 | (.pan,_,S')=>(0,11,⟨#[]⟩,S')
theorem pV (room:Nat) (n:Int) (e:Nat) (b:η) (S':lN):zhO room (.ret n e,b,S')=if n<0\/(room:Int)<n then (0,11,⟨#[]⟩,S') else (n.toNat,e,b,S'):=rfl
theorem onceP_of (room:Nat) (S:lN):dV room S=zhO room (eQ room S.l S.pos S.empty):=by
 unfold dV zhO yR;rfl
theorem ext00 (b:η):ε b 0 0=ByteArray.empty:=by simp
theorem zcC (room:Nat) (hr:1<=room):∀ (l:List Pc) (pos:Nat) (em:Int) (k:Nat),k<8->zeZ (bO l pos em k) k (zhO room (eQ room l pos em))
 | [],pos,em,k,hk=>by
  rw[eQ,pV,bO,zN zo];unfold zeZ;rw[zP (show ((13:Nat)≠0) by decide)];show _=(ByteArray.extract _ 0 0,13);rw[ext00]
 | p::r,pos,em,k,hk=>by
  rw[eQ];by_cases c1:pos<p.text.size
  . rw[zP c1]
    obtain⟨m,hm⟩:=zE (min room (p.text.size-pos));rw[<-hm];have YR:1<=m/\pos+m<=p.text.size/\m<=room:=zo
    have hz:ε (ε p.text pos (pos+m)) 0 m=ε p.text pos (pos+m):=by
     have:=kZ p.text pos (pos+m) YR.2.1;have e:(ε p.text pos (pos+m)).size=m:=zo
     have h9:=ByteArray.extract_zero_size (b:=ε p.text pos (pos+m));rw[e] at h9;exact h9
    rw[pV,zN zo];unfold zeZ;by_cases c5:p.kind=5/\pos+m=p.text.size
    . rw[zP c5,zP (show ((14:Nat)≠0) by decide)]
      dsimp only;rw[Int.toNat_natCast,hz,bO,zP c1,zP c5.1,c5.2]
    rw[zN c5,zN (show ¬ ((0:Nat)≠0) by decide),zP (show 0<((m:Nat):Int).toNat by omega)]
    dsimp only[rN];rw[Int.toNat_natCast,hz,zeQ p r pos (pos+m) em k c1 zo YR.2.1 c5]
  rw[zN c1,bO,zN c1]
  by_cases c2:em<p.n
  . rw[zP c2]
    rw[pV,zN (show ¬ ((0:Int)<0\/(room:Int)<0) by omega)];unfold zeZ;rw[zN (show ¬ ((0:Nat)≠0) by decide),zN (show ¬ 0<(0:Int).toNat by decide)];have hn:k+(p.n-em).toNat=(k+1)+(p.n-(em+1)).toNat:=zo
    by_cases c8:k+1=8
    . rw[zP c8,zP zo]
    rw[zN c8]
    show _=bO (p::r) pos (em+1) (k+1);rw[bO,zN c1,<-hn]
  rw[zN c2]
  have hn:(p.n-em).toNat=0:=zo
  rw[zN zo,hn,Nat.add_zero];by_cases c3:p.kind=1\/p.kind=5
  . rw[zP c3,zP c3]
    rw[pV,zN zo];unfold zeZ;rw[zP (show ((14:Nat)≠0) by decide)];show _=(ByteArray.extract _ 0 0,14);rw[ext00]
  rw[zN c3,zN c3]
  have bad:zeZ (ByteArray.empty,11) k (0,11,⟨#[]⟩,⟨p::r,pos,em⟩):=by
   unfold zeZ;rw[zP (show ((11:Nat)≠0) by decide),ext00]
  by_cases c4:p.kind=2
  . rw[zP (.inl c4),zP c4]
    rw[pV,zP zo];exact bad
  by_cases c6:p.kind=3
  . rw[zP (.inr (.inl c6)),zN c4,zP c6]
    rw[pV,zP zo];exact bad
  by_cases c7:p.kind=4
  . rw[zP (.inr (.inr c7)),zN c4,zN c6,zP c7]
    exact bad
  rw[zN zo,zN c4,zN c6,zN c7]
  exact zcC room hr r 0 0 k hk
def lH (buf:η) (why:Nat) (S:lN):η×Nat:=if why=0 then (buf++(rN S 0).1,(rN S 0).2) else (buf,why)
theorem zhZ (buf:η) (why:Nat) (S:lN):(lH buf why S).2≠0:=by
 unfold lH;split
 . exact uL _ _ _ _
 assumption
theorem zfD (room:Nat) (hr:1<=room):∀ (j k:Nat) (buf:η) (S:lN),j+1+k=8->lH (oI room (j+1) buf S).1 (oI room (j+1) buf S).2.1 (oI room (j+1) buf S).2.2=(buf++(rN S k).1,(rN S k).2)
 | j,k,buf,S,hj=>by
  have h:=zcC room hr S.l S.pos S.empty k zo;rw[<-onceP_of] at h;rw[show bO S.l S.pos S.empty k=rN S k from rfl] at h;rw[oI];unfold zeZ at h;by_cases c1:(dV room S).2.1≠0
  . rw[zP c1] at h
    rw[zP (.inl c1),h];show lH (buf++_) (dV room S).2.1 _=_;unfold lH;rw[zN c1]
  rw[zN c1] at h
  have c1':(dV room S).2.1=0:=by simpa using c1
  by_cases c2:0<(dV room S).1
  . rw[zP c2] at h
    rw[zP (.inr c2),h];show lH (buf++_) (dV room S).2.1 (dV room S).2.2.2=_;unfold lH;rw[zP c1',ByteArray.append_assoc]
  rw[zN c2] at h
  rw[zN (λe=>e.elim c1 c2)];by_cases c8:k+1=8
  . rw[zP c8] at h
    obtain rfl:j=0:=by omega
    rw[oI,h];show lH buf 12 _=_;simp[lH]
  rw[zN c8] at h
  obtain⟨j,rfl⟩:∃ i,j=i+1:=⟨j-1,zo⟩;rw[zfD room hr j (k+1) buf _ zo,h]
theorem moreP_rep (C:Nat) (buf:η) (S:lN) (h:buf.size<C):lH (dL C buf S).1 (dL C buf S).2.1 (dL C buf S).2.2=lH buf 0 S:=by
 unfold dL;rw[zfD (zgW C buf.size) (by unfold zgW;omega) 7 0 buf S rfl];simp[lH]
theorem ziU (a b:η):ε (a++b) 0 a.size=a:=ByteArray.extract_append_eq_left rfl
theorem zcR :∀ (f:Nat) (x:vD),-1<=x.rU-> -1<=(dK T s f x).rU
 | 0,x,h=>h
 | f+1,x,h=>by
  rw[dK];split
  . refine zcR f _ ?_
    unfold nB;split
    . show -1<=χ T.rU _ (-1)
      omega
    exact h
  exact h
theorem zez (h:fY s 0=false):s.size<=3:=by
 have:=qS (eB s 0) h;omega
theorem zcz {T:dX} {R:Nat} (hT:yV T R) (hC:4<=C):∀ (n:Nat) (buf:η) (why:Nat) (S:lN) (x:vD),buf.size<=C->x.alive<=buf.size-> -1<=x.rU->
 dK T (lH buf why S).1 ((lH buf why S).1.size+1) x=dK T (lH buf why S).1 ((lH buf why S).1.size+1) kY->(C-buf.size)+(if why=0 then 1 else 0)<n->
 (jI T C n buf why S x).1=mU T C (lH buf why S).1 (lH buf why S).2/\lH (jI T C n buf why S x).2.1 (jI T C n buf why S x).2.2.1 (jI T C n buf why S x).2.2.2=lH buf why S
 | 0,buf,why,S,x,_,_,_,_,hn=>by omega
 | n+1,buf,why,S,x,hb,hx,Qh,Qv,hn=>by
  obtain⟨s,hs⟩:=zE ((lH buf why S).1);obtain⟨e,he⟩:=zE ((lH buf why S).2);have Z4:e≠0:=by rw[he];exact zhZ _ _ _
  have Ve:ε s 0 buf.size=buf/\buf.size<=s.size:=by
   rw[hs];unfold lH;split
   . exact⟨ziU _ _,by show buf.size<=(buf++_).size;rw[za8];omega⟩
   exact⟨ByteArray.extract_zero_size,bR⟩
  have NR:why≠0->s=buf/\e=why:=by
   intro h;rw[hs,he];unfold lH;rw[zN h];exact⟨rfl,rfl⟩
  rw[<-hs] at Qv;rw[<-hs,<-he];have qo:=uJ (T:=T) (s:=buf) (buf.size+1) x hx;have AE:=zcR (T:=T) (s:=buf) (buf.size+1) x Qh;have Ax:=zif (T:=T) hT (s:=s) (m:=buf.size) (f:=buf.size+1) (g:=s.size+1) (x:=x) Ve.2 hx zo zo;have Xn:=zig (T:=T) hT (s:=s) (m:=buf.size) (f:=buf.size+1) (g:=s.size+1) (x:=x) Ve.2 hx zo zo;have Qg:=zb1 (T:=T) (s:=s) (m:=buf.size) Ve.2 (buf.size+1) (s.size+1) x hx zo;rw[Ve.1] at Ax Xn Qg
  rw[Qv] at Ax Xn Qg;have X5:=zay (T:=T) (s:=buf) (x:=dK T buf (buf.size+1) x) qo.1;rw[jI];generalize hy:dK T buf (buf.size+1) x=y at qo AE Ax Xn Qg X5 ⊢;have Nu:why≠0->dK T s (s.size+1) kY=y:=by
   intro h;rw[<-Qv,(NR h).1];exact hy
  unfold mU;generalize hY:dK T s (s.size+1) kY=Y at Ax Xn Qg Nu ⊢;dsimp only;by_cases c1:C<=dU T buf y
  . rw[zP c1,zP zo]
    exact⟨rfl,rfl⟩
  rw[zN c1];by_cases c2:(dU T buf y=buf.size/\why=0)\/(y.rU<0/\why=0/\fY buf 0=false)
  . rw[zP c2]
    have ju:why=0:=by rcases c2 with c|c;exact c.2;exact c.2.1
    have Hf:buf.size<C:=by
     rcases c2 with c|c
     . omega
     have:=zez c.2.2;omega
    have hm:=moreP_rep C buf S Hf;have hf:=zar C buf S hb;have O9:lH (dL C buf S).1 (dL C buf S).2.1 (dL C buf S).2.2=(s,e):=by rw[hm,hs,he,ju]
    have ih:=zcz (T:=T) (R:=R) hT hC n (dL C buf S).1 (dL C buf S).2.1 (dL C buf S).2.2 y hf.2.1 zo AE (by rw[O9];show dK T s (s.size+1) y=_;rw[Qg];exact hY.symm) (by
     by_cases h0:(dL C buf S).2.1=0
     . have:=hf.2.2 h0
       rw[zP h0];rw[zP ju] at hn;omega
     rw[zN h0];rw[zP ju] at hn;omega)
    rw[O9] at ih;unfold mU at ih;dsimp only at ih;rw[hY] at ih;exact⟨ih.1,by rw[ih.2];exact Prod.ext hs he⟩
  rw[zN c2];by_cases c3:(dU T buf y=buf.size/\why≠13)\/(y.rU<0/\why≠13/\fY buf 0=false)\/buf.size=0
  . rw[zP c3]
    have hw:why≠0:=by
     intro h0;apply c2
     rcases c3 with c|c|c
     . exact .inl ⟨c.1,h0⟩
     . exact .inr ⟨c.1,h0,c.2.2⟩
     exact .inl ⟨zo,h0⟩
    obtain⟨rfl,rfl⟩:=NR hw;have hyY:=Nu hw;subst hyY;refine⟨?_,rfl⟩;rw[zN c1];by_cases d1:dU T s Y=s.size/\e≠13
    . rw[zP d1]
    rw[zN d1]
    by_cases d2:s.size=0
    . have:e=13:=Decidable.byContradiction λh=>d1 ⟨zo,h⟩
      rw[zP d2,this]
    rw[zN d2]
    rcases c3 with c|c|c
    . exact absurd c d1
    . rw[zP c.1,zP ⟨c.2.2,c.2.1⟩]
    exact absurd c d2
  rw[zN c3]
  refine⟨?_,rfl⟩;have hz:buf.size≠0:=λh=>c3 (.inr (.inr h));by_cases hw:why=0
  . have Hf:dU T buf y<buf.size:=by
     rcases zLg (dU T buf y) buf.size with h|h
     . exact h
     exact absurd (.inl ⟨zo,hw⟩) c2
    obtain⟨rfl,ha⟩:=Xn Hf;rw[zN (show ¬ C<=dU T s Y by omega),zN (show ¬ (dU T s Y=s.size/\e≠13) by omega),zN (show ¬ s.size=0 by omega)];by_cases d3:Y.rU<0
    . have hf:fY buf 0=true:=by
       cases hf:fY buf 0 with
       | true=>rfl
       | false=>exact absurd (.inr ⟨d3,hw,hf⟩) c2
      have Ce:fY s 0=true:=zhx (m:=buf.size) Ve.2 zo (by rw[Ve.1];exact hf);have hd:=zbf (s:=s) (m:=buf.size) (p:=0) Ve.2 zo (by rw[Ve.1];exact hf);rw[Ve.1] at hd;rw[zP d3,zP d3,zN (by simp[Ce]),hd,show Y.rU= -1 by omega]
    rw[zN d3,zN d3]
  obtain⟨rfl,rfl⟩:=NR hw
  have hyY:=Nu hw;subst hyY;rw[zN c1,zN (show ¬ (dU T s Y=s.size/\e≠13) from λh=>c3 (.inl h)),zN (show ¬ s.size=0 from hz)];by_cases d3:Y.rU<0
  . rw[zP d3,zP d3,zN (λh=>c3 (.inr (.inl ⟨d3,h.2,h.1⟩))),show Y.rU= -1 by omega]
  rw[zN d3,zN d3]
theorem zdA (hT:yV T R) (hC:4<=C) (buf:η) (why:Nat) (S:lN) (hb:buf.size<=C):
 (jI T C (C+2) buf why S kY).1=mU T C (lH buf why S).1 (lH buf why S).2/\lH (jI T C (C+2) buf why S kY).2.1 (jI T C (C+2) buf why S kY).2.2.1 (jI T C (C+2) buf why S kY).2.2.2=lH buf why S:=
 zcz hT hC (C+2) buf why S kY hb rC (Int.le_refl _) rfl (by split<;>omega)
theorem xS {e rule':Nat} {rU:Int} (h:mU T C s e=.tok rU len):1<=len/\len<=s.size:=by
 have hL:=zbu (T:=T) (s:=s) (s.size+1) kY za3;have qo:=uJ (T:=T) (s:=s) (s.size+1) kY rC;unfold mU at h;generalize dK T s (s.size+1) kY=y at h hL qo;dsimp only at h;split at h
 . cases h
 split at h
 . cases h
 split at h
 . cases h
 rename_i hz
 have:=pM s 0 zo;split at h
 . grind
 cases h
 have:=hL.1;have:=hL.2 zo;omega
theorem ext_pre {a:η} (h:n<=a.size):ε (a++b) 0 n=ε a 0 n:=by
 simp_all[ByteArray.extract_append]
theorem ext_over {a:η} {m:Nat} (h:a.size<=m):ε a n m=ε a n a.size:=by
 ext1
 rw[ByteArray.data_extract,ByteArray.data_extract];have:a.data.size=a.size:=rfl
 grind
theorem ext_suf {a:η} (h:n<=a.size):ε (a++b) n (a++b).size=ε a n a.size++b:=by
 rw[ByteArray.extract_append,ByteArray.size_append]
 grind [ByteArray.extract_zero_size,ext_over]
theorem repS_pre (h:n<=buf.size):ε ((lH buf why S).1) 0 n=ε buf 0 n/\lH (ε buf n buf.size) why S=(ε ((lH buf why S).1) n (lH buf why S).1.size,(lH buf why S).2):=by
 grind [lH,ext_pre,ext_suf]
theorem nextS_e {x:Sc} {k:Nat} (h0:x.err=0) (h:jI T C (C+2) x.buf x.why x.src kY=(.err k,buf,why,S)):jA T C x=(tk0,k,⟨buf,why,k,x.pos,x.line,x.col,S⟩):=by
 grind [jA]
theorem nextS_t {x:Sc} {rU:Int} (h0:x.err=0) (h:jI T C (C+2) x.buf x.why x.src kY=(.tok rU len,buf,why,S)):
 jA T C x=(⟨rU,x.pos,x.line,x.col,ε buf 0 len⟩,0,⟨ε buf len buf.size,why,0,x.pos+len,(dW (ε buf 0 len) (len+1) 0 x.line x.col).1,(dW (ε buf 0 len) (len+1) 0 x.line x.col).2,S⟩):=by
 grind [jA]
theorem nextS_err {x:Sc} (h:x.err≠0):jA T C x=(tk0,x.err,x):=by
 unfold jA
 grind
theorem nextS_pos {M:Nat} {x:Sc} (hT:yV T R) (hC:4<=C) (h:xF M C x) (h0:(jA T C x).2.1=0):x.pos+1<=(jA T C x).2.2.pos:=by
 by_cases h1:x.err=0
 . have hf:=uD (T:=T) (C:=C) (C+2) x.buf x.why x.src kY rC za3 h.size
   have hi:=(zdA (T:=T) hT hC x.buf x.why x.src h.size).1;have:=zhZ x.buf x.why x.src
   rcases hR:jI T C (C+2) x.buf x.why x.src kY with⟨r,buf,why,S⟩
   rw[hR] at hf hi;dsimp only at hf hi;cases r with
   | err k=>
    rw[nextS_e h1 hR] at h0;dsimp only at h0;subst h0;unfold mU at hi
    grind
   | tok rU len=>
    rw[nextS_t h1 hR];have:=(hf.2.2 rU len rfl).1;dsimp only;omega
 unfold jA at h0
 rw[zP h1] at h0;exact absurd h0 h1
end
section
open Go.RowKit Go.Lib Go.Extern.Stop Go.Stop Go.Extern Tryz
theorem rlm (z:Sem Value) (f:TypeId->Addr->Nat->Nat->Sem Value) (v:Value):
 ReflectliteValue.method z f #[v]=(do match<-ReflectliteValue.parts v with|none=>z|some (t,a,fl)=>f t a fl (fl%32)):=rfl
theorem rL (v x:Value):ReflectliteValue.set #[v,x]=(do
 let (some (dst,a,fl),some (src,b,_)):=(<-ReflectliteValue.parts v,<-ReflectliteValue.parts x)
  | unsupported (.noEntry "extern/(internal/reflectlite.Value).Set.zeroValue")
 if fl / ReflectliteValue.flagAddr%2==0 then unsupported (.noEntry "extern/(internal/reflectlite.Value).Set.unaddressable")
 let val<-loadVar src b
 if<-Rtype.directlyAssignable dst src then storeVar dst a val
 else if<-Rtype.implements dst src then
  if (<-Rtype.kind src)==20 then
   match val with
   | .nilIface=>unsupported (.noEntry "extern/reflectlite: a nil value of one interface type handed on as a value of another")
   | _=>storeVar dst a val
  else storeVar dst a (Δ src val)
 else panicString ("reflectlite.Set: value of type " ++(<-Rtype.spelt src)++ " is not assignable to type " ++(<-Rtype.spelt dst))
 pure (ϕ #[])):=rfl
theorem zbl (x:Value) (w:ω):(Go.method 437 261 (.agg #[x]) "Kind").run prog w=.ok (181,x) w:=by kernel_rfl
theorem zbk (x:Value) (w:ω):(Go.method 437 261 (.agg #[x]) "Elem").run prog w=.ok (198,.agg #[x]) w:=by kernel_rfl
theorem pU (x:Value) (w:ω):(Go.method 437 261 (.agg #[x]) "Implements").run prog w=.ok (199,.agg #[x]) w:=by kernel_rfl
theorem nR (x:Value) (w:ω):(Go.method 437 261 (.agg #[x]) "AssignableTo").run prog w=.ok (196,.agg #[x]) w:=by kernel_rfl
theorem zii (w:ω):(ReflectliteType.relation "AssignableTo" ReflectliteType.assignableTo #[.agg #[Φ (some ⟨4,86,none⟩)],Δ 261 (.agg #[Φ (some ⟨4,87,none⟩)])]).run prog w=.ok (φ false) w:=by kernel_rfl
theorem assignHit (w:ω):(ReflectliteType.relation "AssignableTo" ReflectliteType.assignableTo #[.agg #[Φ (some ⟨4,86,none⟩)],Δ 261 (.agg #[Φ (some ⟨4,86,none⟩)])]).run prog w=.ok (φ true) w:=by kernel_rfl
theorem noAsE (v:Value) (xT:TypeId) (w:ω):(Instr.typeAssert (Δ 86 v) xT 275 true).run prog w=.ok (ϕ #[.nilIface,φ false]) w:=run_typeAssert_lacksB underlying275 zK zK v xT w
theorem zjc (k:Int) (w:ω):(ReflectliteValue.unpack (Δ 86 (ι k))).run prog w
 =.ok (.agg #[Φ (some ⟨4,86,none⟩),π w.t,υ 130]) (κ w (Ω #[ι k] 86)):=by kernel_rfl
theorem elemOfE (w:ω):(Rtype.elem? 199).run prog w=.ok (some 86) w:=by kernel_rfl
theorem mkE (p:Addr) (w:ω):(ReflectliteValue.mk 86 p ReflectliteValue.flagAddr).run prog w=.ok (.agg #[Φ (some ⟨4,86,none⟩),Φ (some p),υ 386]) w:=by kernel_rfl
theorem zib (t:Addr) (w:ω):(ReflectliteValue.unpack (Δ 169 (Φ (some t)))).run prog w
 =.ok (.agg #[Φ (some ⟨4,169,none⟩),π w.t,υ 150]) (κ w (Ω #[Φ (some t)] 169)):=by kernel_rfl
theorem typeF (a:Addr) (w:ω):(ReflectliteValue.methodAny (ReflectliteValue.valueError "reflectlite.Value.Type" 0) (λt _ _ _=>ReflectliteType.toType t) #[.agg #[Φ (some ⟨4,169,none⟩),Φ (some a),υ 150]]).run prog w
 =.ok (Δ 261 (.agg #[Φ (some ⟨4,169,none⟩)])) w:=by rfl
theorem kindF (w:ω):((ReflectliteType.abiMethod λt=>(λa:Nat=>Value.int IntKind.u8 (a:Int))<$>Rtype.kind t) #[Φ (some ⟨4,169,none⟩)]).run prog w=.ok (.int .u8 22) w:=by kernel_rfl
theorem kindEF (w:ω):((ReflectliteType.abiMethod λt=>(λa:Nat=>Value.int IntKind.u8 (a:Int))<$>Rtype.kind t) #[Φ (some ⟨4,87,none⟩)]).run prog w=.ok (.int .u8 22) w:=by kernel_rfl
theorem partsF (a:Addr) (w:ω):(ReflectliteValue.parts (.agg #[Φ (some ⟨4,169,none⟩),Φ (some a),υ 150])).run prog w=.ok (some (169,a,150)) w:=by kernel_rfl
theorem isNilF (a p:Addr) (W:ω) (ha:W.cell? a=some (Φ (some p))):
 (ReflectliteValue.method (ReflectliteValue.valueError "reflectlite.Value.IsNil" 0) ReflectliteValue.isNil #[.agg #[Φ (some ⟨4,169,none⟩),Φ (some a),υ 150]]).run prog W=.ok (φ false) W:=by
 simp_all[rlm,partsF,ReflectliteValue.isNil,loadVar]
theorem elemF (w:ω):(ReflectliteType.method ReflectliteType.elem #[.agg #[Φ (some ⟨4,169,none⟩)]]).run prog w=.ok (Δ 261 (.agg #[Φ (some ⟨4,87,none⟩)])) w:=by kernel_rfl
theorem zck (w:ω):(ReflectliteType.relation "Implements" ReflectliteType.implements_ #[.agg #[Φ (some ⟨4,87,none⟩)],Δ 261 (.agg #[Φ (some ⟨4,51,none⟩)])]).run prog w=.ok (φ true) w:=by kernel_rfl
theorem valueOfE (t:Addr) (w:ω):(ReflectliteValue.unpack (Δ 199 (Φ (some t)))).run prog w
 =.ok (.agg #[Φ (some ⟨4,199,none⟩),π w.t,υ 150]) (κ w (Ω #[Φ (some t)] 199)):=by kernel_rfl
theorem typeE (a:Addr) (w:ω):(ReflectliteValue.methodAny (ReflectliteValue.valueError "reflectlite.Value.Type" 0) (λt _ _ _=>ReflectliteType.toType t) #[.agg #[Φ (some ⟨4,199,none⟩),Φ (some a),υ 150]]).run prog w
 =.ok (Δ 261 (.agg #[Φ (some ⟨4,199,none⟩)])) w:=by rfl
theorem kindE (w:ω):((ReflectliteType.abiMethod λt=>(λa:Nat=>Value.int IntKind.u8 (a:Int))<$>Rtype.kind t) #[Φ (some ⟨4,199,none⟩)]).run prog w=.ok (.int .u8 22) w:=by kernel_rfl
theorem kindEE (w:ω):((ReflectliteType.abiMethod λt=>(λa:Nat=>Value.int IntKind.u8 (a:Int))<$>Rtype.kind t) #[Φ (some ⟨4,86,none⟩)]).run prog w=.ok (.int .u8 2) w:=by kernel_rfl
theorem partsE (a:Addr) (w:ω):(ReflectliteValue.parts (.agg #[Φ (some ⟨4,199,none⟩),Φ (some a),υ 150])).run prog w=.ok (some (199,a,150)) w:=by kernel_rfl
theorem isNilE (a p:Addr) (W:ω) (ha:W.cell? a=some (Φ (some p))):
 (ReflectliteValue.method (ReflectliteValue.valueError "reflectlite.Value.IsNil" 0) ReflectliteValue.isNil #[.agg #[Φ (some ⟨4,199,none⟩),Φ (some a),υ 150]]).run prog W=.ok (φ false) W:=by
 simp_all[rlm,partsE,ReflectliteValue.isNil,loadVar]
theorem elemE (w:ω):(ReflectliteType.method ReflectliteType.elem #[.agg #[Φ (some ⟨4,199,none⟩)]]).run prog w=.ok (Δ 261 (.agg #[Φ (some ⟨4,86,none⟩)])) w:=by kernel_rfl
theorem zgy (w:ω):(ReflectliteType.relation "Implements" ReflectliteType.implements_ #[.agg #[Φ (some ⟨4,86,none⟩)],Δ 261 (.agg #[Φ (some ⟨4,51,none⟩)])]).run prog w=.ok (φ true) w:=by kernel_rfl
theorem elemVE (a p:Addr) (W:ω) (ha:W.cell? a=some (Φ (some p))):
 (ReflectliteValue.method (ReflectliteValue.valueError "reflectlite.Value.Elem" 0) ReflectliteValue.elem #[.agg #[Φ (some ⟨4,199,none⟩),Φ (some a),υ 150]]).run prog W
  =.ok (.agg #[Φ (some ⟨4,86,none⟩),Φ (some p),υ 386]) W:=by
 rw[rlm];simp_all[partsE,ReflectliteValue.elem,loadVar,elemOfE,mkE]
theorem partsIa (a:Addr) (w:ω):(ReflectliteValue.parts (.agg #[Φ (some ⟨4,86,none⟩),Φ (some a),υ 386])).run prog w=.ok (some (86,a,386)) w:=by kernel_rfl
theorem partsI (a:Addr) (w:ω):(ReflectliteValue.parts (.agg #[Φ (some ⟨4,86,none⟩),Φ (some a),υ 130])).run prog w=.ok (some (86,a,130)) w:=by kernel_rfl
theorem directE (w:ω):(Rtype.directlyAssignable 86 86).run prog w=.ok true w:=by rfl
theorem setE (ta b:Addr) (k:Int) (old:Value) (W:ω) (hb:W.cell? b=some (ι k)) (ht:W.cell? ta=some old) (hf:W.frozen? ta=false):
 (ReflectliteValue.set #[.agg #[Φ (some ⟨4,86,none⟩),Φ (some ta),υ 386],.agg #[Φ (some ⟨4,86,none⟩),Φ (some b),υ 130]]).run prog W
  =.ok (ϕ #[]) (W.setCell ta (ι k)):=by
 rw[rL];simp only[Sem.run_bind,partsIa,partsI,Result.andThen];simp[ReflectliteValue.flagAddr,loadVar,isAgg,underlying,underlying86,hb,Result.andThen,directE,storeVar,Value.cells,storeCells,Addr.add];rw[run_store prog W ta _ _ zr]
 grind
theorem as_miss (k:Nat) (t:Addr) (w:ω) (hg:w.v 2 0 (Δ 261 (.agg #[Φ (some ⟨4,51,none⟩)]))):
 Γ 62 #[Δ 86 (ι k),Δ 169 (Φ (some t))] w λev w'=>ev=ρ (φ false)/\w'=(κ (κ (κ w (Ω #[Φ (some t)] 169)) (Ω #[Φ (some ⟨4,169,none⟩),π w.t,υ 150] 232)) (Ω #[Φ (some ⟨4,169,none⟩),π w.t,υ 150] 232)):=by
 have:= @run_callFunc_extern prog 100 _ (λargs=>ReflectliteValue.unpack (args.getD 0 (ϕ #[]))) func100 zr zr zr zK;have:= @run_callFunc_extern prog 101 _ (ReflectliteValue.methodAny (ReflectliteValue.valueError "reflectlite.Value.Type" 0) (λt _ _ _=>ReflectliteType.toType t)) func101 zr zr zr zK
 have:= @run_callFunc_extern prog 102 _ (ReflectliteValue.method (ReflectliteValue.valueError "reflectlite.Value.IsNil" 0) ReflectliteValue.isNil) func102 zr zr zr zK;have:= @run_callFunc_extern prog 181 _ (ReflectliteType.abiMethod λt=>do pure (.int .u8 (<-Rtype.kind t))) func181 zr zr zr zK;have:= @run_callFunc_extern prog 198 _ (ReflectliteType.method ReflectliteType.elem) func198 zr zr zr zK
 have:= @run_callFunc_extern prog 199 _ (ReflectliteType.relation "Implements" ReflectliteType.implements_) func199 zr zr zr zK;have:= @run_callFunc_extern prog 87 _ ReflectliteType.typeOf func87 zr zr zr zK;have:= @run_callFunc_extern prog 196 _ (ReflectliteType.relation "AssignableTo" ReflectliteType.assignableTo) func196 zr zr zr zK;have:=zek;have:=nR;have:=zib;have:=typeF;have:=zbl
 have:=zbk;have:=pU;have:=kindF;have:=kindEF;have:=elemF;have:=zck;have:=isNilF w.z t (κ (κ w (.cells #[Φ (some t)] 169)) (.cells #[Φ (some ⟨4,169,none⟩),Φ (some w.z),υ 150] 232)) zs;have Hf:2<w.heap.size:=by grind [World.cell?]
 have:(κ (κ w (Ω #[Φ (some t)] 169)) (Ω #[Φ (some ⟨4,169,none⟩),π w.t,υ 150] 232)).v 2 0 (Δ 261 (.agg #[Φ (some ⟨4,51,none⟩)])):=by
  exact zzBP
 have:=zii;have:=noAsE;have:=zfF;have:=zdB;go_in;go_wp2;refine zzAZ ?_;go_wp2;go_ret;simp
theorem as_hit (k:Nat) (t:Addr) (old:Value) (w:ω) (hg:w.v 2 0 (Δ 261 (.agg #[Φ (some ⟨4,51,none⟩)]))) (ht0:w.cell? t=some old) (Xl:w.frozen? t=false):
 Γ 62 #[Δ 86 (ι k),Δ 199 (Φ (some t))] w λev w'=>ev=ρ (φ true)/\w'=ς (κ (κ (κ (κ w (Ω #[Φ (some t)] 199)) (Ω #[Φ (some ⟨4,199,none⟩),π w.t,υ 150] 232)) (Ω #[Φ (some ⟨4,199,none⟩),π w.t,υ 150] 232)) (Ω #[ι (k:Int)] 86)) t (ι k):=by
 have:= @run_callFunc_extern prog 100 _ (λargs=>ReflectliteValue.unpack (args.getD 0 (ϕ #[]))) func100 zr zr zr zK;have:= @run_callFunc_extern prog 101 _ (ReflectliteValue.methodAny (ReflectliteValue.valueError "reflectlite.Value.Type" 0) (λt _ _ _=>ReflectliteType.toType t)) func101 zr zr zr zK
 have:= @run_callFunc_extern prog 102 _ (ReflectliteValue.method (ReflectliteValue.valueError "reflectlite.Value.IsNil" 0) ReflectliteValue.isNil) func102 zr zr zr zK;have:= @run_callFunc_extern prog 181 _ (ReflectliteType.abiMethod λt=>do pure (.int .u8 (<-Rtype.kind t))) func181 zr zr zr zK;have:= @run_callFunc_extern prog 198 _ (ReflectliteType.method ReflectliteType.elem) func198 zr zr zr zK
 have:= @run_callFunc_extern prog 199 _ (ReflectliteType.relation "Implements" ReflectliteType.implements_) func199 zr zr zr zK;have:= @run_callFunc_extern prog 87 _ ReflectliteType.typeOf func87 zr zr zr zK;have:= @run_callFunc_extern prog 196 _ (ReflectliteType.relation "AssignableTo" ReflectliteType.assignableTo) func196 zr zr zr zK
 have:= @run_callFunc_extern prog 120 _ (ReflectliteValue.method (ReflectliteValue.valueError "reflectlite.Value.Elem" 0) ReflectliteValue.elem) func120 zr zr zr zK;have:= @run_callFunc_extern prog 121 _ ReflectliteValue.set func121 zr zr zr zK;have:=zek;have:=nR;have:=valueOfE;have:=typeE;have:=zbl;have:=zbk;have:=pU;have:=kindE;have:=kindEE;have:=elemE;have:=zgy
 have:=isNilE w.z t (κ (κ w (.cells #[Φ (some t)] 199)) (.cells #[Φ (some ⟨4,199,none⟩),Φ (some w.z),υ 150] 232)) zs;have Hf:2<w.heap.size:=by grind [World.cell?]
 have:(κ (κ w (Ω #[Φ (some t)] 199)) (Ω #[Φ (some ⟨4,199,none⟩),π w.t,υ 150] 232)).v 2 0 (Δ 261 (.agg #[Φ (some ⟨4,51,none⟩)])):=by
  exact zzBP
 have:=assignHit;have:=zjc;have BG:t.block<w.t:=by
  exact zzDT
 have:=elemVE w.z t (κ (κ (κ w (Ω #[Φ (some t)] 199)) (Ω #[Φ (some ⟨4,199,none⟩),π w.t,υ 150] 232)) (Ω #[Φ (some ⟨4,199,none⟩),π w.t,υ 150] 232)) (by rw[World.cell?_alloc_lt _ _ w.z zx];simp)
 have:=setE t ⟨w.t+1+1+1,0,none⟩ k old (κ (κ (κ (κ w (Ω #[Φ (some t)] 199)) (Ω #[Φ (some ⟨4,199,none⟩),π w.t,υ 150] 232)) (Ω #[Φ (some ⟨4,199,none⟩),π w.t,υ 150] 232)) (Ω #[ι (k:Int)] 86))
  (by simp_all[World.cell?_alloc_at])
  (by rw[World.cell?_alloc_lt _ _ t zx,World.cell?_alloc_lt _ _ t zx,World.cell?_alloc_lt _ _ t zx,World.cell?_alloc_lt _ _ t BG];exact ht0)
  (by rw[World.frozen?_alloc_old _ _ t zx,World.frozen?_alloc_old _ _ t zx,World.frozen?_alloc_old _ _ t zx,World.frozen?_alloc_old _ _ t (Nat.ne_of_lt BG)];exact Xl)
 go_in;go_wp2;refine zzAZ ?_;go_wp2;go_ret;simp
end
section
open Go.RowKit Go.Lib Tryz
theorem as_hit2 (k b:Nat) (old:Value) (w:ω) (hg:w.v 2 0 (Δ 261 (.agg #[Φ (some ⟨4,51,none⟩)]))) (ht:w.h b #[old] 86):
 Γ 62 #[Δ 86 (ι k),Δ 199 (π b)] w λe w'=>e=ρ (φ true)/\w'.h b #[ι k] 86/\w.g w' b:=by
 have c0:=zq 0 ht;have lb:=aA ht;refine (as_hit k b.a old w hg c0 (zF 0 ht)).mono ?_;rintro e w' ⟨rfl,rfl⟩
 have qu:=((((zBr w.t w).alloc bR (Ω #[π b] 199)).alloc zs (Ω #[Φ (some ⟨4,199,none⟩),π w.t,υ 150] 232)).alloc zx (Ω #[Φ (some ⟨4,199,none⟩),π w.t,υ 150] 232)).alloc zx (Ω #[ι (k:Int)] 86);exact zzCs
def ErrT (w:ω):Prop:=w.v 2 0 (Δ 261 (.agg #[Φ (some ⟨4,51,none⟩)]))
theorem ErrT.lt (h:ErrT w):2<w.heap.size:=by
 unfold ErrT at h;grind [World.cell?]
theorem ErrT.below (h:ErrT w) (hb:Below B w w') (hB:2<B):ErrT w':=(aG hb ⟨2,0,none⟩ hB).trans h
def toldV (k:Nat):Value:=if k=0 then ϕ #[ι 0,ι 0,ι 0] else ϕ #[ι k,ι (-1),ι (-1)]
theorem zia (k:Nat) (w:ω) (hE:ErrT w) (h0:0<w.heap.size):Γ 38 #[fN k] w λe w'=>e=ρ (toldV k)/\w.u w':=by
 by_cases hk:k=0
 . subst hk
   show Γ 38 #[.nilIface] w _;go_in;go_wp2;exact bodyPost_ret (v:=ϕ #[ι 0,ι 0,ι 0]) zzAY rfl ⟨rfl,iM⟩
 rw[jE hk]
 have h0:=hE.lt;have Hk:w.u (κ w (Ω #[Φ none] 87)):=Ξ w _;have h1:=as_miss k w.z (κ w (Ω #[Φ none] 87)) (hE.below Hk h0);go_in;go_upto_region 6 with (go_at_call 62;refine h1.mono ?_;rintro e w2 ⟨rfl,QG⟩;have XD:=zh QG;clear QG)
 have Hm:w.u w2:=by
  rw[XD.o];exact ((Hk.alloc Hk.size _).alloc zx _).alloc zx _
 have QV:=zh Hm;have Hu:w.u (κ w2 (Ω #[ι 0] 86)):=Hm.alloc Hm.size _;have M7:(κ w2 (Ω #[ι 0] 86)).h w2.t #[ι 0] 86:=bA _ _ _ rfl;have h2:=as_hit2 k w2.t _ (κ w2 (Ω #[ι 0] 86)) (hE.below Hu h0) M7;have H2:=zh h2;have H3:=zh Hu;clear h2 Hu M7 Hm
 go_wp2_with (first|(go_at_call 62;refine H2.o.mono ?_;rintro e w4 ⟨rfl,Sx,Vp⟩;have:=zq 0 Sx;have H4:=zh Vp;clear Sx Vp));have qu:w.u w4:=H3.o.grown H4.o H3.o.size (λg hg=>by cases hg;exact QV.o.size);refine bodyPost_ret (v:=ϕ #[ι k,ι (-1),ι (-1)]) zzAY rfl ⟨by unfold toldV;rw[zN hk],qu⟩
structure uU where
 X:η
 why:Nat
 C:Nat
 aQ:Nat
 line:Int
 col:Int
 e:Nat
def uU.rest (x:uU):η:=ε x.X x.aQ x.X.size
def uU.mv (x:uU) (t:η):uU:={x with aQ:=x.aQ+t.size,line:=(dW t (t.size+1) 0 x.line x.col).1,col:=(dW t (t.size+1) 0 x.line x.col).2}
def gT (T:dX) (x:uU):Tk×Nat×uU:=
 if x.e≠0 then (tk0,x.e,x) else
 match mU T x.C x.rest x.why with
 | .err k=>(tk0,k,{x with e:=k})
 | .tok rU len=>(⟨rU,x.aQ,x.line,x.col,ε x.rest 0 len⟩,0,x.mv (ε x.rest 0 len))
structure RWf (x:uU):Prop where
 why:x.why≠0
 aQ:x.aQ<=x.X.size
 sz:x.X.size<=100000
 C:4<=x.C/\x.C<=100000
 line:1<=x.line/\x.line<=x.aQ+1
 col:1<=x.col/\x.col<=x.aQ+1
theorem za2 {x:uU} (h:x.aQ<=x.X.size):x.rest.size=x.X.size-x.aQ:=by
 unfold uU.rest;simp
theorem mv_rest {x:uU} (h:x.aQ<=x.X.size) (hl:len<=x.rest.size):(x.mv (ε x.rest 0 len)).rest=ε x.rest len x.rest.size/\(ε x.rest 0 len).size=len:=by
 have hs:=za2 h;have h1:(ε x.rest 0 len).size=len:=fS _ _ hl;refine⟨?_,h1⟩;show ε x.X (x.aQ+(ε x.rest 0 len).size) x.X.size=ε x.rest len x.rest.size;rw[h1,hs];unfold uU.rest;rw[ByteArray.extract_extract];congr 1;omega
theorem mv_wf {x:uU} (h:RWf x) (hl:len<=x.rest.size):RWf (x.mv (ε x.rest 0 len)):=by
 have:=za2 h.aQ;have h1:=(mv_rest h.aQ hl).2;have hb:=rO (ε x.rest 0 len) ((ε x.rest 0 len).size+1) 0 x.line x.col h.line.1 h.col.1;rw[h1] at hb;have:=h.aQ;have:=h.line;have:=h.col;refine⟨h.why,?_,h.sz,h.C,?_,?_⟩
 . show x.aQ+(ε x.rest 0 len).size<=x.X.size
   omega
 . show 1<=(dW _ _ _ _ _).1/\(dW _ _ _ _ _).1<=((x.aQ+(ε x.rest 0 len).size:Nat):Int)+1
   rw[h1];omega
 show 1<=(dW _ _ _ _ _).2/\(dW _ _ _ _ _).2<=((x.aQ+(ε x.rest 0 len).size:Nat):Int)+1
 rw[h1];omega
theorem zb0 {x:uU} (h:RWf x):RWf (gT T x).2.2:=by
 unfold gT;split
 . exact h
 cases hi:mU T x.C x.rest x.why with
 | err k=>exact⟨h.why,h.aQ,h.sz,h.C,h.line,h.col⟩
 | tok rU len=>exact mv_wf h (xS (rule':=0) hi).2
structure Sim (C:Nat) (x:Sc) (r:uU):Prop where
 err:x.err=r.e
 pos:x.pos=r.aQ
 line:x.line=r.line
 col:x.col=r.col
 cap:r.C=C
 buf:x.buf.size<=C
 aQ:r.aQ<=r.X.size
 rep:x.err=0->lH x.buf x.why x.src=(r.rest,r.why)
theorem zeM (hT:yV T R) (hC:4<=C) {x:Sc} {r:uU} (h:Sim C x r):
 (jA T C x).1=(gT T r).1/\(jA T C x).2.1=(gT T r).2.1/\Sim C (jA T C x).2.2 (gT T r).2.2:=by
 by_cases h0:x.err=0
 . have hi:=zdA (T:=T) hT hC x.buf x.why x.src h.buf
   have hf:=uD (T:=T) (C:=C) (C+2) x.buf x.why x.src kY rC za3 h.buf;have hr:=h.rep h0;rw[hr] at hi;unfold gT;rw[zN (show ¬ r.e≠0 from λhn=>hn (by rw[<-h.err];exact h0)),h.cap]
   rcases hN:jI T C (C+2) x.buf x.why x.src kY with⟨n,buf,why,S⟩
   rw[hN] at hi hf;dsimp only at hi hf;rw[<-hi.1];cases n with
   | err k=>
    rw[nextS_e h0 hN];exact⟨rfl,rfl,rfl,h.pos,h.line,h.col,rfl,hf.2.1,h.aQ,λe=>hi.2⟩
   | tok rU len=>
    rw[nextS_t h0 hN];obtain⟨k1,k2⟩:=hf.2.2 rU len rfl;have hp:=repS_pre (why:=why) (S:=S) k2;rw[hi.2] at hp;dsimp only at hp;have hl:=(xS (rule':=0) hi.1.symm).2;obtain⟨m1,m2⟩:=mv_rest h.aQ hl;have:=za2 h.aQ;have:=h.aQ;refine⟨?_,rfl,h0.symm.trans (h0.symm▸h.err),?_,?_,?_,h.cap,?_,?_,λ_=> ?_⟩
    . show (⟨rU,x.pos,x.line,x.col,ε buf 0 len⟩:Tk)=⟨rU,r.aQ,r.line,r.col,ε r.rest 0 len⟩
      rw[h.pos,h.line,h.col,hp.1]
    . show x.pos+(len:Int)=((r.aQ+(ε r.rest 0 len).size:Nat):Int)
      rw[m2,h.pos];push_cast;rfl
    . show (dW (ε buf 0 len) (len+1) 0 x.line x.col).1=(dW (ε r.rest 0 len) ((ε r.rest 0 len).size+1) 0 r.line r.col).1
      rw[m2,h.line,h.col,hp.1]
    . show (dW (ε buf 0 len) (len+1) 0 x.line x.col).2=(dW (ε r.rest 0 len) ((ε r.rest 0 len).size+1) 0 r.line r.col).2
      rw[m2,h.line,h.col,hp.1]
    . show (ε buf len buf.size).size<=C
      have:=kZ buf len buf.size bR;have:=hf.2.1;omega
    . show r.aQ+(ε r.rest 0 len).size<=r.X.size
      omega
    show lH (ε buf len buf.size) why S=((r.mv (ε r.rest 0 len)).rest,r.why)
    rw[hp.2,m1]
 rw[nextS_err h0]
 unfold gT;rw[zP (show r.e≠0 from λe=>h0 (h.err.trans e))];exact⟨rfl,h.err,h⟩
def endL:List Pc->η->Nat->η×Nat
 | [],x,_=>(x,13)
 | p::r,x,k=>
  if p.kind=5/\0<p.text.size then (x++p.text,14)
  else if 8<=(if 0<p.text.size then 0 else k)+p.n.toNat then (x++p.text,12)
  else if p.kind=1\/p.kind=5 then (x++p.text,14)
  else if p.kind=2\/p.kind=3\/p.kind=4 then (x++p.text,11)
  else endL r (x++p.text) ((if 0<p.text.size then 0 else k)+p.n.toNat)
theorem zfj (h:¬ 0<b.size):b=ByteArray.empty:=by
 apply ByteArray.ext;apply Array.eq_empty_of_size_eq_zero;have:b.data.size=b.size:=rfl;omega
theorem zap:∀ (l:List Pc) (x:η) (k:Nat),endL l x k=(x++(bO l 0 0 k).1,(bO l 0 0 k).2)
 | [],x,k=>by simp[endL,bO]
 | p::r,x,k=>by
  rw[endL,bO];by_cases hs:0<p.text.size
  . simp only[hs,if_true,and_true,Int.sub_zero,ByteArray.extract_zero_size]
    by_cases h5:p.kind=5
    . rw[zP h5,zP h5]
    rw[zN h5,zN h5]
    by_cases h8:8<=0+p.n.toNat
    . rw[zP h8,zP h8]
    rw[zN h8,zN h8]
    by_cases h1:p.kind=1
    . rw[zP (.inl h1),zP h1]
    rw[zN (by rintro (h|h);exact h1 h;exact h5 h),zN h1]
    by_cases h2:p.kind=2\/p.kind=3\/p.kind=4
    . rw[zP h2,zP h2]
    rw[zN h2,zN h2,zap r]
    simp[ByteArray.append_assoc]
  have he:=zfj hs
  simp only[hs,if_false,and_false,Int.sub_zero];simp only[he,ByteArray.append_empty];by_cases h8:8<=k+p.n.toNat
  . rw[zP h8,zP h8];simp
  rw[zN h8,zN h8]
  by_cases h1:p.kind=1\/p.kind=5
  . rw[zP h1,zP h1];simp
  rw[zN h1,zN h1]
  by_cases h2:p.kind=2\/p.kind=3\/p.kind=4
  . rw[zP h2,zP h2];simp
  rw[zN h2,zN h2,zap r]
def uV (why:Nat):List Pc:=if why=14 then[⟨ByteArray.empty,0,1⟩] else if why=12 then[⟨ByteArray.empty,8,0⟩] else if why=11 then[⟨ByteArray.empty,0,2⟩] else[]
def lT (x:η) (n:Nat):List Pc:=(List.range n).map λi=>⟨ε x i (i+1),0,0⟩
def uW (x:η) (why:Nat) (single:Bool):List Pc:=(if single=true then lT x x.size else[⟨x,0,0⟩])++uV why
theorem zg5 (h:why=11\/why=12\/why=13\/why=14):bO (uV why) 0 0 0=(ByteArray.empty,why):=by
 rcases h with rfl|rfl|rfl|rfl<;>simp[uV,bO]
theorem zbP {r:List Pc} {s:η×Nat} (h:bO r 0 0 0=s):bO (⟨x,0,0⟩::r) 0 0 0=(x++s.1,s.2):=by
 rw[bO];by_cases hs:0<x.size
 . simp[hs,h]
 have he:=zfj hs
 simp[he,h]
theorem zbO {r:List Pc} (h:bO r 0 0 0=(ByteArray.empty,why)):∀ n i,i+n=x.size->bO (((List.range' i n).map λi=>(⟨ε x i (i+1),0,0⟩:Pc))++r) 0 0 0=(ε x i x.size,why)
 | 0,i,hi=>by
  have:i=x.size:=by omega
  subst this;simp[h]
 | n+1,i,hi=>by
  rw[List.range'_succ,List.map_cons,List.cons_append,zbP (zbO h n (i+1) zo)];simp only[ByteArray.extract_append_extract];congr 2<;>omega
theorem ze2 (h:why=11\/why=12\/why=13\/why=14) (single:Bool):bO (uW x why single) 0 0 0=(x,why):=by
 have ht:=zg5 h;unfold uW;cases single with
 | true=>
  have:=zbO (x:=x) ht x.size 0 zo;rw[zP rfl];unfold lT;rw[List.range_eq_range',this,ByteArray.extract_zero_size]
 | false=>
  rw[zN zd,List.cons_append,List.nil_append,zbP ht];simp
theorem yJ:∀ (l:List Pc) (k:Nat),(bO l 0 0 k).2=11\/(bO l 0 0 k).2=12\/(bO l 0 0 k).2=13\/(bO l 0 0 k).2=14
 | [],k=>by simp[bO]
 | p::r,k=>by
  have h0:=yJ r (0+(p.n-0).toNat);have hk:=yJ r (k+(p.n-0).toNat);exact zzDs
