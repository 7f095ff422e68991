/- Part of a proof. No condition. -/
import Derived.Test.YtmfnmkccbldfpaaGreatDoorS41
import Derived.Test.YtmfnmkccbldfpaaGreatDoorS23
set_option linter.unusedVariables false
set_option linter.unusedSimpArgs false
set_option maxRecDepth 100000
set_option maxHeartbeats 4000000
namespace Go.Proofs.YtmfnmkccbldfpaaGreatDoor
open Go.RowKit Go.Lib Tryz
theorem zzCr {p:Prop} (h:p:=by simp[results,results58,go_sem]):p:=h
def szL (l:List Pc):Nat:=(l.map (λp=>p.text.size)).sum
def PcOk (p:Pc):Prop:=(0<=p.n/\p.n<=100)/\(p.kind=0\/p.kind=1\/p.kind=2\/p.kind=3\/p.kind=4\/p.kind=5)
theorem end_any (l:List Pc) (w:ω) (v:Value) (Hb:w.r 47 3 v (I l) (dY l)) (hl:I l<=1000000) (Hq:∀ p∈l,PcOk p) (Hv:szL l<=1000000):
 Γ 58 #[v] w λe w'=>e=ρ (ϕ #[γ (bO l 0 0 0).1,ι ((bO l 0 0 0).2:Nat)])/\w.u w':=by
 obtain⟨R,hR⟩:=zE (endL l ByteArray.empty 0);have hs:=zap l ByteArray.empty 0;rw[<-hR,ByteArray.empty_append] at hs;rw[show (bO l 0 0 0)=R from hs.symm];have HR:=zh hR;have Hw:=zh Hb;have QA:=zh Hq;obtain⟨ao,cap,hv⟩:=bJ Hb;rw[hv] at Hw ⊢;clear hR hs Hb Hq hv;go_in;go_wp2
 go_loopw [4,5,6] (λs4 s5 s6 wr=>∃ (i k:Nat) (x:η),s6=ι i/\s4=γ x/\s5=ι k/\i<=I l/\k<8/\endL (l.drop i) x k=R/\x.size+szL (l.drop i)<=1000000/\w.u wr) (λ_ _ s6 _=>I l-(ϑ s6).toNat)
 case atStart=>exact⟨0,0,ByteArray.empty,rfl,rfl,rfl,zo,zo,HR.o.symm,by simpa using Hv,iM⟩
 case round=>
  obtain⟨i,k,x,rfl,rfl,rfl,hi,hk,hE,CX,YK⟩:=hrel;have HE:=zh hE;have qz:=zh YK;clear hE YK;have:=mF i;by_cases YP:i<I l
  . have zi:=zt i (I l)
    obtain⟨p,hp⟩:=zG l i YP;obtain⟨⟨n0,n1⟩,hkd⟩:=QA.o p (zM hp);have Yx:=aN Hw.o qz.o;obtain⟨g,rfl⟩:∃ g,ao=some ⟨g,0,none⟩:=by
     rcases aY Yx with⟨e,h0⟩|⟨g,c,e,_⟩
     . omega
     cases e;exact⟨g,rfl⟩
    obtain⟨k0,k1,k2⟩:=zcE l i p hp;have c0:=aJ Yx _ _ k0;have c1:=aJ Yx _ _ k1;have c2:=aJ Yx _ _ k2;have x7:l.drop i=p::l.drop (i+1):=by
     rw[List.drop_eq_getElem_cons YP];congr 1;rw[zLe YP] at hp;exact zO hp
    rw[x7] at CX;obtain⟨text,n,kind⟩:=p;have i8:(x++text).size+szL (l.drop (i+1))<=1000000:=by
     rw[za8];unfold szL at CX ⊢;simp only[List.map_cons,List.sum_cons] at CX;omega
    have:x.size+text.size<=9223372036854775807:=by rw[za8] at i8;omega
    have Uo:=zh i8;obtain⟨n,rfl⟩:=Int.eq_ofNat_of_zero_le n0;have Hh:=HE.o;rw[x7,endL] at Hh;dsimp only at c0 c1 c2 n1 hkd;simp only[Int.toNat_natCast,Int.ofNat_eq_natCast] at Hh c1 n1;have:IntKind.i64.wrap (n:Int)=(n:Int):=lM;have X5:w.u (κ wr (Ω #[γ text,ι n,ι kind] 47)):=qz.o.alloc qz.o.size _;have ve:=zh X5;have Hl:=zh Hh;clear x7 hp HE Yx k0 k1 k2 n0 X5 Hh CX i8;go_upto_region 8 with fail
    obtain⟨w1,yw⟩:=zE (κ wr (Ω #[γ text,ι n,ι kind] 47));have Hk:w1.h wr.t #[γ text,ι n,ι kind] 47:=by rw[yw];exact bA _ _ _ rfl
    rw[<-yw] at ve ⊢;have:=zq 0 Hk;have:=zq 1 Hk;have:=zq 2 Hk;have:=aA Hk;clear c0 c1 c2 yw Hk;generalize wr.heap.size=bx at*;have zr:∀ E:Nat,R=(x++text,E)->Ending.returned (ϕ #[γ (x++text),ι E])=Ending.returned (ϕ #[γ R.1,ι (R.2:Nat)]):=λE h=>by rw[h]
    have WQ:=zh zr;clear zr;go_cut [30] (λs30 wx=>wx=w1/\s30=φ (decide (kind=5/\0<text.size)))
    case first=>
     by_cases h5:kind=5
     . have z5:(kind==(5:Int))=true:=by simp[h5]
       have HK:=zh h5;clear h5;go_wp2;go_meet;exact⟨rfl,by simp[HK.o]⟩
     . have z5:(kind==(5:Int))=false:=by simp[h5]
       go_wp2;go_meet;exact⟨rfl,by simp[h5]⟩
    case rest=>
     obtain⟨rfl,rfl⟩:=hcut;by_cases h5:kind=5/\0<text.size
     . rw[zP h5] at Hl
       have HE:=zh Hl.o.symm;rw[decide_eq_true h5];clear h5;go_wp2;refine bodyPost_ret (v:=ϕ #[γ (x++text),ι 14]) zzCr rfl ?_;exact⟨WQ.o _ HE.o,ve.o⟩
     rw[zN h5] at Hl;rw[decide_eq_false h5];clear h5;go_upto_if 35 with fail
     go_cut [5] (λs5 wx=>s5=ι ((if 0<text.size then 0 else k:Nat):Int)/\wx=wc)
     case first=>
      by_cases hs:0<text.size
      . have zs:=zp text.size
        go_wp2;go_meet;exact⟨by rw[zP hs];rfl,rfl⟩
      . have zs:¬ (0:Int)<(text.size:Int):=zo
        go_wp2;go_meet;exact⟨by rw[zN hs],rfl⟩
     case rest=>
      obtain⟨rfl,rfl⟩:=hcut;have:(if 0<text.size then 0 else k)<8:=by split<;>omega
      generalize (if 0<text.size then 0 else k)=q at*;have:=lM (n:=(q:Int)+(n:Int));by_cases h8:8<=q+n
      . have z8:8<=(q:Int)+(n:Int):=zo
        rw[zP h8] at Hl;have HE:=zh Hl.o.symm;go_wp2;refine bodyPost_ret (v:=ϕ #[γ (x++text),ι 12]) zzCr rfl ?_;exact⟨WQ.o _ HE.o,ve.o⟩
      have z8:¬ 8<=(q:Int)+(n:Int):=zo
      rw[zN h8] at Hl
      rcases hkd with rfl|rfl|rfl|rfl|rfl|rfl
      case' inl=>
       have HE:zH (endL (l.drop (i+1)) (x++text) (q+n)=R):=Hl;clear Hl;go_wp2;go_roundw
       case rel=>exact⟨i+1,q+n,x++text,by go_num,rfl,by go_num,zo,zo,HE.o,Uo.o,ve.o⟩
       case measure=>exact zY
      all_goals
       first|have HE:zH (R=(x++text,14)):=zh Hl.o.symm|have HE:zH (R=(x++text,11)):=zh Hl.o.symm
       clear Hl;go_wp2;refine bodyPost_ret (v:=ϕ #[γ (x++text),_]) (by simp[results,results58,go_sem];rfl) rfl ?_;exact⟨WQ.o _ HE.o,ve.o⟩
  have zi:=zn i (I l)
  have e:=HE.o;rw[List.drop_eq_nil_of_le zo,endL] at e;subst e;go_wp2;refine bodyPost_ret (v:=ϕ #[γ x,ι 13]) zzCr rfl ?_;exact⟨rfl,qz.o⟩
theorem zdS (t:Tk) (w:ω):Γ 24 #[tkV t,tkV t] w λe w'=>e=ρ (φ true)/\w.u w':=by
 obtain⟨rU,pos,line,col,text⟩:=t;have hb:=((zBr w.t w).alloc bR (Ω #[ι rU,ι pos,ι line,ι col,γ text] 64)).alloc zs (Ω #[ι rU,ι pos,ι line,ι col,γ text] 74);have HB:=zh hb;clear hb;unfold tkV;go_in;go_wp2;go_ret;exact⟨zs,HB.o⟩
theorem zzCX {p:Prop} (h:p:=by exact Hw.o.alloc _):p:=h
theorem zzB2 {p:Prop} (h:p:=by
 go_wp2;refine bodyPost_ret (v:=.tuple #[.pointer none,fN 9]) (by simp[results,results96,go_sem,fN]) rfl ?_;exact⟨rfl,rfl⟩):p:=h
structure zgc (w0 w:ω) (v:Value) (l:List Pc):Prop where
 row:w.r 47 3 v (I l) (dY l)
 new:∀ g,β v=some g->w0.t<=g
 bel:w0.u w
theorem zgc.push {w0 w w2:ω} {v v2:Value} {l:List Pc} {p:Pc} {ob:Obj} (h:zgc w0 w v l) (hr:w2.r 47 3 v2 (I l+1) (dY l++[γ p.text,ι p.n,ι p.kind])) (hg:(κ w ob).grownBy w2 (β v))
 (hb:β v2=β v\/β v2=some (κ w ob).heap.size):zgc w0 w2 v2 (l++[p]):=by
 have hz:=h.bel.size;refine⟨?_,λg e=> ?_,(h.bel.alloc hz _).grown hg zx h.new⟩
 . rw[zhQ,zLn]
   exact hr
 rcases hb with hb|hb
 . exact h.new g (by rw[<-hb];exact e)
 rw[hb] at e;cases e;simp;omega
theorem zgi (x:η) (n:Nat):lT x (n+1)=lT x n++[⟨ε x n (n+1),0,0⟩]:=by
 unfold lT;rw[List.range_succ,List.map_append];rfl
theorem xH (x:η) (n:Nat):I (lT x n)=n:=by simp[lT]
theorem ziD (l:List Pc) (single:Bool) (w:ω) (v:Value) (Hb:w.r 47 3 v (I l) (dY l)) (hl:I l<=1000000) (Hq:∀ p∈l,PcOk p) (Hv:szL l<=1000000) (hx:(bO l 0 0 0).1.size<=1000000):
 Γ 57 #[v,φ single] w λe w'=>∃ v',e=ρ v'/\zgc w w' v' (uW (bO l 0 0 0).1 (bO l 0 0 0).2 single):=by
 have Y4:=end_any l w v Hb hl Hq Hv;have NR:=yJ l 0;obtain⟨ao,cap,hv⟩:=bJ Hb;rw[hv] at Y4 ⊢;generalize (bO l 0 0 0).1=x at*;generalize (bO l 0 0 0).2=why at*;have HE:=zh Y4;clear Y4 Hb Hq Hv hv;obtain⟨Z,hZ⟩:=zE (uW x why single);rw[<-hZ];have HZ:=zh hZ;clear hZ;go_in;go_upto_if 14 with (go_at_call 58;refine HE.o.mono ?_;rintro e w1 ⟨rfl,Hk⟩;have XW:=zh Hk;clear Hk)
 go_cut [7] (λs7 wx=>∃ Xe Q6,s7=τ Xe (I (if single=true then lT x x.size else[⟨x,0,0⟩])) Q6/\zgc w wx s7 (if single=true then lT x x.size else[⟨x,0,0⟩]))
 case first=>
  cases single with
  | true=>
   go_wp2;go_loopw [7,8] (λs7 s8 wr=>∃ (i:Nat) (Xe:Option Addr) (Q6:Nat),s8=ι i/\s7=τ Xe i Q6/\i<=x.size/\zgc w wr (τ Xe i Q6) (lT x i)) (λ_ s8 _=>x.size-(ϑ s8).toNat)
   case atStart=>exact⟨0,none,0,rfl,rfl,rC,World.ownsRow_nil _ _ _ _,λg e=>(by cases e),XW.o⟩
   case round=>
    obtain⟨i,Xe,Q6,rfl,rfl,hi,hP⟩:=hrel;have HP:=zh hP;have:=mF i;clear hP;by_cases Dr:i<x.size
    . have zi:=zt i x.size
      have:(0:Int)<=(i:Int):=zo
      have:(i:Int)<=(i:Int)+1:=zo
      have:(i:Int)+1<=(x.size:Int):=zo
      have Yx:=HP.o.row;rw[xH] at Yx;have Hw:=zh Yx;clear Yx
      go_wp2_with (at_builtin;refine bM _ rfl _ _ rfl oD _ i (dY (lT x i)) zr zzCX ⟨_,0,none⟩ 1 1 [γ (ε x i (i+1)),ι 0,ι 0] rfl rfl (cI _ #[γ (ε x i (i+1)),ι 0,ι 0] _ _ zs) zzAU zd zo zd ?_;intro v2 w2 qt Qp QX;obtain⟨a2,c2,jm⟩:=bJ qt;subst jm;have H2:=Λ qt Qp QX;clear qt Qp QX);go_roundw
      case rel=>
       have h:=HP.o.push (p:=⟨ε x i (i+1),0,0⟩) (by rw[xH];exact H2.o.1) H2.o.2.1 H2.o.2.2;rw[<-zgi] at h;exact⟨i+1,a2,c2,by go_num,rfl,zo,h⟩
      case measure=>exact zY
    . have zi:=zn i x.size
      obtain rfl:i=x.size:=by omega
      go_wp2;go_meet;exact⟨Xe,Q6,by simp[xH],by simpa using HP.o⟩
  | false=>
   have hp:zgc w w1 ν []:=⟨World.ownsRow_nil _ _ _ _,λg e=>(by cases e),XW.o⟩;have HP:=zh hp;have Hw:zH (w1.r 47 3 ν 0 (dY [])):=zh hp.row;clear hp
   go_wp2_with (at_builtin;refine bM _ rfl _ _ rfl oD _ 0 (dY []) zr zzCX ⟨_,0,none⟩ 1 1 [γ x,ι 0,ι 0] rfl rfl (cI _ #[γ x,ι 0,ι 0] _ _ zs) zzAU zd zo zd ?_;intro v2 w2 qt Qp QX;obtain⟨a2,c2,jm⟩:=bJ qt;subst jm;have H2:=Λ qt Qp QX;clear qt Qp QX);go_meet;have h:=HP.o.push (p:=⟨x,0,0⟩) H2.o.1 H2.o.2.1 H2.o.2.2
   exact⟨a2,c2,zs,by simpa using h⟩
 case rest=>
  obtain⟨Xe,Q6,rfl,hP⟩:=hcut;have:I (if single=true then lT x x.size else[⟨x,0,0⟩])<=1000001:=by
   split
   . rw[xH];omega
   show 1<=_;omega
  have hz:(if single=true then lT x x.size else[⟨x,0,0⟩])++uV why=Z:=HZ.o.symm;generalize (if single=true then lT x x.size else[⟨x,0,0⟩])=L0 at*;have dq:=zh hz;clear hz HZ;have HP:=zh hP;have Hw:=zh hP.row;clear hP
  rcases NR with rfl|rfl|rfl|rfl
  . go_wp2_with (at_builtin;refine bM _ rfl _ _ rfl oD _ (I L0) (dY L0) zr zzCX ⟨_,0,none⟩ 1 1 [γ ⟨#[]⟩,ι 0,ι 2] rfl rfl (cI _ #[γ ⟨#[]⟩,ι 0,ι 2] _ _ zs) zzAU zd zo zd ?_;intro v2 w2 qt Qp QX;obtain⟨a2,c2,jm⟩:=bJ qt;subst jm;have H2:=Λ qt Qp QX;clear qt Qp QX)
    go_ret;exact⟨τ a2 (I L0+1) c2,rfl,by rw[<-dq.o];exact HP.o.push (p:=⟨ByteArray.empty,0,2⟩) H2.o.1 H2.o.2.1 H2.o.2.2⟩
  . go_wp2_with (at_builtin;refine bM _ rfl _ _ rfl oD _ (I L0) (dY L0) zr zzCX ⟨_,0,none⟩ 1 1 [γ ⟨#[]⟩,ι 8,ι 0] rfl rfl (cI _ #[γ ⟨#[]⟩,ι 8,ι 0] _ _ zs) zzAU zd zo zd ?_;intro v2 w2 qt Qp QX;obtain⟨a2,c2,jm⟩:=bJ qt;subst jm;have H2:=Λ qt Qp QX;clear qt Qp QX)
    go_ret;exact⟨τ a2 (I L0+1) c2,rfl,by rw[<-dq.o];exact HP.o.push (p:=⟨ByteArray.empty,8,0⟩) H2.o.1 H2.o.2.1 H2.o.2.2⟩
  . go_wp2
    go_ret;exact⟨τ Xe (I L0) Q6,rfl,by rw[<-dq.o,show uV 13=[] from rfl,List.append_nil];exact HP.o⟩
  go_wp2_with (at_builtin;refine bM _ rfl _ _ rfl oD _ (I L0) (dY L0) zr zzCX ⟨_,0,none⟩ 1 1 [γ ⟨#[]⟩,ι 0,ι 1] rfl rfl (cI _ #[γ ⟨#[]⟩,ι 0,ι 1] _ _ zs) zzAU zd zo zd ?_;intro v2 w2 qt Qp QX;obtain⟨a2,c2,jm⟩:=bJ qt;subst jm;have H2:=Λ qt Qp QX;clear qt Qp QX)
  go_ret;exact⟨τ a2 (I L0+1) c2,rfl,by rw[<-dq.o];exact HP.o.push (p:=⟨ByteArray.empty,0,1⟩) H2.o.1 H2.o.2.1 H2.o.2.2⟩
theorem newSrc2 (l:List Pc) (w:ω) (v:Value) (hl:I l<1000000) (Hb:w.r 47 3 v (I l) (dY l)):
 Γ 55 #[v] w λe w'=>∃ sb,e=ρ (aF sb)/\oP w'.t w' sb ⟨l,0,0⟩/\w.t<=sb/\w.u w'/\w'.i sb 3 0:=by
 obtain⟨ao,cap,hv⟩:=bJ Hb;rw[hv] at Hb ⊢;clear hv;go_in;go_wp2_with (at_builtin;refine lK _ rfl _ _ rfl oD _ _ _ rfl zzB8 _ (I l) (dY l) rfl (by exact Hb) (zcF _) zo zd ?_;intro v1 w1 qc QE YI;obtain⟨a1,c1,CZ⟩:=bJ qc;subst CZ);go_ret;have EF:w.grownBy w1 none:=QE;have qc:w1.r 47 3 (τ a1 (I l) c1) (I l) (dY l):=by simpa using qc
 have Hk:w.u w1:=⟨EF.os,EF.tape,EF.output,EF.size,λb hb=>EF.block b hb zs⟩;have Hm:w1.u (κ w1 (Ω #[τ a1 (I l) c1,ι 0,ι 0,ι 0] 155)):=iM.alloc bR _;have po:(κ w1 (Ω #[τ a1 (I l) c1,ι 0,ι 0,ι 0] 155)).h w1.t #[τ a1 (I l) c1,ι 0,ι 0,ι 0] 155:=bA _ _ _ rfl
 refine⟨w1.t,by simp[aF],?_,Hk.size,bI Hk Hm Hk.size,zQ 3 po⟩
 rcases aY qc with⟨e,h0⟩|⟨g,c,e,Xi,hg⟩
 . injection e with e1 _ e3
   subst e1;subst e3;obtain rfl:l=[]:=List.eq_nil_of_length_eq_zero h0;exact⟨none,0,0,0,0,po,bR,zs,λh=>absurd rfl h,λi p hp=>by simp at hp⟩
 injection e with e1 _ e3
 subst e1;subst e3;refine⟨some g.a,c1,0,g,0,po,Xi,zs,λ_=>⟨rfl,zo,zx,(dE qc rfl).imp λ_ e=>(Hm.block g hg).trans e⟩,λi p hp=> ?_⟩;obtain⟨k1,k2,k3⟩:=zcE l i p hp;have hc:∀ j u,(dY l)[j]?=some u->(κ w1 (Ω #[σ g (I l) c1,ι 0,ι 0,ι 0] 155)).v g j u:=λj u hu=>
  (World.cell?_of_block (Hm.block g hg)).trans (aJ qc j u hu)
 refine⟨?_,?_,?_⟩
 . rw[Nat.zero_add];exact hc _ _ k1
 . rw[Nat.zero_add];exact hc _ _ k2
 rw[Nat.zero_add];exact hc _ _ k3
theorem zeR (cb sb:Nat) (c:Int) (hc:c<4\/100000<c) (w:ω):Γ 96 #[aF cb,Δ 145 (aF sb),ι c] w λe w'=>e=ρ (ϕ #[Φ none,fN 9])/\w'=w:=by
 by_cases h:c<4
 . go_in
   exact zzB2
 have:100000<c:=zo
 go_in;exact zzB2
theorem zfN (cb sb:Nat) (c:Int) (hc:c<4\/100000<c) (w:ω):Γ 56 #[aF cb,aF sb,ι c] w λe w'=>e=ρ (ϕ #[Φ none,fN 9])/\w'=w:=by
 have Eh:=zh (λw=>zeR cb sb c hc w);go_in;go_wp2_with (first|(go_at_call 96;refine (Eh.o _).mono ?_;rintro e w1 ⟨rfl,rfl⟩));exact bodyPost_ret (v:=ϕ #[Φ none,fN 9]) (by simp[results,results56,go_sem]) rfl ⟨rfl,rfl⟩
