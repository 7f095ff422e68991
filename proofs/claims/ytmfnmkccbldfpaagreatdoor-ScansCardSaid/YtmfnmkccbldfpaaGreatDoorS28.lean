/- Part of a proof. No condition. -/
import Derived.Deep.CutBlock
import Derived.Deep.DeepCutAuto
import Derived.Test.YtmfnmkccbldfpaaGreatDoorS03
set_option linter.unusedVariables false
set_option linter.unusedSimpArgs false
set_option maxRecDepth 100000
set_option maxHeartbeats 4000000
namespace Go.Proofs.YtmfnmkccbldfpaaGreatDoor
theorem zzDm {p:Prop} (h:p:=by unfold wN;rw[zN zo,zN zo,zN zo];omega):p:=h
theorem zzCi {p:Prop} (h:p:=by
 go_wp2;go_meet;exact⟨rfl,by rw[E1.o];simp,rfl⟩):p:=h
theorem zzCe {p:Prop} (h:p:=by
 go_wp2;go_ret;exact⟨rfl,iM⟩):p:=h
theorem zzCW {p:Prop} (h:p:=by
 go_wp2;go_meet;exact⟨rfl,by rw[E1.o];simp,rfl,rfl⟩):p:=h
theorem zzCO {p:Prop} (h:p:=by
 simp only[iP,hl,fH];simp;omega):p:=h
theorem zzBp {p:Prop} (h:p:=by
 exact⟨by rw[HE.o];rfl,rfl⟩):p:=h
theorem zzAX {p:Prop} (h:p:=by simp_all[results]):p:=h
variable {s:η} {p:Nat} {lo hi:Int}
section
open Go.RowKit Go.Lib Tryz
def bT (s:η) (p:Nat):Int×Nat:=
 if p<s.size then (if (δ s p).1=65533/\(δ s p).2=1 then (-1,1) else (((δ s p).1:Int),(δ s p).2)) else (-1,0)
def gZ (c:Int):Bool:=decide (0<=c/\c<=1114111/\(c<55296\/57343<c))
theorem yG (c:Int) (hc: -1<=c/\c<300000000) (w:ω):Γ 93 #[ι c] w λe w'=>e=ρ (φ (gZ c))/\w'=w:=by
 rcases (by omega:c<0\/(0<=c/\c<55296)\/(55296<=c/\c<=57343)\/(57343<c/\c<=1114111)\/1114111<c) with h|⟨h,h'⟩|⟨h,h'⟩|⟨h,h'⟩|h
 . have e:gZ c=false:=decide_eq_false zo
   rw[e];have z1:¬ 0<=c:=zo
   go_in;go_wp2;go_ret;simp
 . have e:gZ c=true:=decide_eq_true zo
   rw[e];have z1:c<=1114111:=zo
   go_in;go_wp2;go_ret;simp
 . have e:gZ c=false:=decide_eq_false zo
   rw[e];have z1:c<=1114111:=zo
   have z2:0<=c:=zo
   have z3:¬ c<55296:=zo
   have:¬ 57343<c:=zo
   go_in;go_wp2;go_ret;simp
 . have e:gZ c=true:=decide_eq_true zo
   rw[e];have z2:0<=c:=zo
   have z3:¬ c<55296:=zo
   go_in;go_wp2;go_ret;simp
 have e:gZ c=false:=decide_eq_false zo
 rw[e];have z1:¬ c<=1114111:=zo
 have z2:0<=c:=zo
 go_in;go_wp2;go_ret;simp
def sR (b:Nat):Nat:=if b<224 then 2 else if b<240 then 3 else 4
def sQ (b:Nat):Nat:=if b<224 then b%32 else if b<240 then b%16 else b%8
def cN (s:η):Nat->Nat
 | 0=>0
 | 1=>sQ (bL s 0)
 | i+2=>64*cN s (i+1)+bL s (i+1)%64
def zff (s:η) (i:Nat):Prop:=∀ j,1<=j->j<i->bL s j / 64=2
theorem cN_lt (s:η):∀ i,i<=4->cN s i<32*64^3:=by
 intro i hi;have:sQ (bL s 0)<32:=by unfold sQ;split<;>(try split)<;>omega
 rcases (by omega:i=0\/i=1\/i=2\/i=3\/i=4) with rfl|rfl|rfl|rfl|rfl<;>simp only[cN]<;>omega
theorem one_lead (h0:0<s.size) (h1:194<=bL s 0) (h2:bL s 0<245) {w c:Nat} (hw:sR (bL s 0)=w) (hc:cN s w=c):
 (w<=s.size->zff s w->fH w<=c->gZ c=true->bT s 0=((c:Int),w))/\((s.size<w\/¬ zff s w\/c<fH w\/gZ c=false)->bT s 0=(-1,1)):=by
 have hd:=lU s 0;have:zff s w↔∀ j,1<=j->j<w->bL s j / 64=2:=Iff.rfl;unfold bT;rw[zP h0];simp only[Nat.zero_add,Nat.sub_zero] at hd;by_cases g3:bL s 0<224
 . grind [sR,cN,sQ,oU,fH,gZ]
 by_cases g4:bL s 0<240
 . obtain rfl:w=3:=by grind [sR]
   have Vn:c=bL s 0%16*4096+bL s 1%64*64+bL s 2%64:=by rw[<-hc];simp only[cN,sQ,zN g3,zP g4,Nat.zero_add,Nat.reduceAdd];omega
   rw[oV zo g4] at hd;have hk:zff s 3↔bL s 1 / 64=2/\bL s 2 / 64=2:=⟨λh=>⟨h 1 zo zo,h 2 zo zo⟩,λh j h1 h2=>by
    grind⟩
   rw[hk];simp only[fH,gZ,eq_self,if_true,decide_eq_true_eq,decide_eq_false_iff_not,show ¬ ((3:Nat)=2) by decide,if_false];refine⟨λk1 k2 k3 k4=> ?_,λh=> ?_⟩
   . grind
   rw[zN (fun⟨q1,q2,q3,q4,q5⟩=>by
    grind)] at hd
   grind
 obtain rfl:w=4:=by grind [sR]
 have Vn:c=bL s 0%8*262144+bL s 1%64*4096+bL s 2%64*64+bL s 3%64:=by rw[<-hc];simp only[cN,sQ,zN g3,zN g4,Nat.zero_add,Nat.reduceAdd];omega
 rw[oW zo h2] at hd;have hk:zff s 4↔bL s 1 / 64=2/\bL s 2 / 64=2/\bL s 3 / 64=2:=⟨λh=>⟨h 1 zo zo,h 2 zo zo,h 3 zo zo⟩,λh j h1 h2=>by
  rcases (by omega:j=1\/j=2\/j=3) with rfl|rfl|rfl
  all_goals omega⟩
 rw[hk];simp only[fH,gZ,eq_self,if_true,decide_eq_true_eq,decide_eq_false_iff_not,show ¬ ((4:Nat)=2) by decide,show ¬ ((4:Nat)=3) by decide,if_false];refine⟨λk1 k2 k3 k4=> ?_,λh=> ?_⟩
 . grind
 rw[zN (fun⟨q1,q2,q3,q6,q4,q5⟩=>by
  grind)] at hd
 grind
theorem and192:∀ n:Nat,n<256->(bits BinOp.and IntKind.i64 (n:Int) 192 != 128)= !decide (n / 64=2):=by decide+kernel
theorem and63:∀ n:Nat,n<256->bits BinOp.and IntKind.i64 (n:Int) 63=((n%64:Nat):Int):=by decide+kernel
theorem and31:∀ n:Nat,n<256->bits BinOp.and IntKind.i64 (n:Int) 31=((n%32:Nat):Int):=by decide+kernel
theorem and15:∀ n:Nat,n<256->bits BinOp.and IntKind.i64 (n:Int) 15=((n%16:Nat):Int):=by decide+kernel
theorem and7:∀ n:Nat,n<256->bits BinOp.and IntKind.i64 (n:Int) 7=((n%8:Nat):Int):=by decide+kernel
theorem zcD (s:η) (w:ω):Γ 50 #[γ s] w λe w'=>e=ρ (ϕ #[ι (bT s 0).1,ι ((bT s 0).2:Nat)])/\w'=w:=by
 by_cases h0:s.size=0
 . have e:bT s 0=(-1,0):=by unfold bT;rw[zN zo]
   rw[e];have z1:(s.size:Int)=0:=zo
   go_in;go_wp2;refine bodyPost_ret (v:=ϕ #[ι (-1),ι 0]) zzAX rfl ?_;simp
 have hb:=eB s 0;have hd:=lU s 0;have z1:¬ (s.size:Int)=0:=zo
 have z0:0<s.size:=zo
 have hg0:=fX s 0 z0;by_cases g1:bL s 0<128
 . have e:bT s 0=((bL s 0:Int),1):=by
    unfold bT;rw[zP z0,hd,Lib.decodeN,zP g1,zN zo]
   rw[e];have z2:(bL s 0:Int)<128:=zo
   go_in;go_wp2;refine bodyPost_ret (v:=ϕ #[ι (bL s 0:Int),ι 1]) zzAX rfl ?_;simp
 have z2:¬ (bL s 0:Int)<128:=zo
 by_cases g2:bL s 0<194
 . have e:bT s 0=(-1,1):=by
    unfold bT;rw[zP z0,hd,pN (.inl ⟨zo,g2⟩) hb,zP ⟨rfl,rfl⟩]
   rw[e];have z3:¬ (194:Int)<=(bL s 0:Int):=zo
   have z4:¬ (224:Int)<=(bL s 0:Int):=zo
   have z5:¬ (240:Int)<=(bL s 0:Int):=zo
   go_in;go_wp2;refine bodyPost_ret (v:=ϕ #[ι (-1),ι 1]) zzAX rfl ?_;simp
 by_cases g5:245<=bL s 0
 . have e:bT s 0=(-1,1):=by
    unfold bT;rw[zP z0,hd,pN (.inr g5) hb,zP ⟨rfl,rfl⟩]
   rw[e];have z3:(194:Int)<=(bL s 0:Int):=zo
   have z4:(224:Int)<=(bL s 0:Int):=zo
   have z5:(240:Int)<=(bL s 0:Int):=zo
   have z6:¬ (bL s 0:Int)<224:=zo
   have z7:¬ (bL s 0:Int)<240:=zo
   have z8:¬ (bL s 0:Int)<245:=zo
   go_in;go_wp2;refine bodyPost_ret (v:=ϕ #[ι (-1),ι 1]) zzAX rfl ?_;simp
 obtain⟨k,hk⟩:∃ k,sR (bL s 0)=k:=⟨_,rfl⟩;obtain⟨c,hc⟩:∃ c,cN s k=c:=⟨_,rfl⟩;have hO:=one_lead z0 zo zo hk hc;have U5:2<=k/\k<=4:=by rw[<-hk];unfold sR;split<;>(try split)<;>omega
 have m31:=and31 _ hb;have m15:=and15 _ hb;have m7:=and7 _ hb;have HK:=Ψ hk hc hO U5;have z3:(194:Int)<=(bL s 0:Int):=zo
 clear hd hk hc hO U5;go_in
 go_upto_block 0 with fail
 go_cut [5,6,7] (λs5 s6 s7 wx=>s5=ι k/\s6=ι (sQ (bL s 0):Nat)/\s7=ι (fH k:Nat)/\wx=w)
 case first=>
  by_cases g3:bL s 0<224
  . have e1:sQ (bL s 0)=bL s 0%32:=by unfold sQ;rw[zP g3]
    have e2:k=2:=by have:=HK.o.1;unfold sR at this;rw[zP g3] at this;exact this.symm
    subst e2;have E1:=zh e1;clear e1;have z4:(bL s 0:Int)<224:=zo
    exact zzCW
  have z4:¬ (bL s 0:Int)<224:=zo
  have z5:(224:Int)<=(bL s 0:Int):=zo
  by_cases g4:bL s 0<240
  . have e1:sQ (bL s 0)=bL s 0%16:=by unfold sQ;rw[zN g3,zP g4]
    have e2:k=3:=by have:=HK.o.1;unfold sR at this;rw[zN g3,zP g4] at this;exact this.symm
    subst e2;have E1:=zh e1;clear e1;have z6:(bL s 0:Int)<240:=zo
    exact zzCW
  . have e1:sQ (bL s 0)=bL s 0%8:=by unfold sQ;rw[zN g3,zN g4]
    have e2:k=4:=by have:=HK.o.1;unfold sR at this;rw[zN g3,zN g4] at this;exact this.symm
    subst e2;have E1:=zh e1;clear e1;have z6:¬ (bL s 0:Int)<240:=zo
    have z7:(240:Int)<=(bL s 0:Int):=zo
    have z8:(bL s 0:Int)<245:=zo
    exact zzCW
 case rest=>
  obtain⟨rfl,rfl,rfl,rfl⟩:=hcut;clear m31 m15 m7;by_cases hn:s.size<k
  . have e:=HK.o.2.2.1.2 (.inl hn)
    have HE:=zh e;clear e;have z5:=zt s.size k
    go_wp2;refine bodyPost_ret (v:=ϕ #[ι (-1),ι 1]) zzAX rfl ?_;exact zzBp
  have z5:=zn s.size k
  go_wp2;go_loopw [6,8] (λs6 s8 wr=>∃ i:Nat,s8=ι i/\s6=ι (cN s i:Nat)/\1<=i/\i<=k/\zff s i/\wr=wc) (λ_ s8 _=>k-(ϑ s8).toNat)
  case atStart=>exact⟨1,rfl,rfl,zo,by have:=HK.o.2.2.2;omega,λj h1 h2=>zo,rfl⟩
  case round=>
   obtain⟨i,rfl,rfl,h1,h2,h3,rfl⟩:=hrel;have H3:=zh h3;clear h3;have U5:=HK.o.2.2.2;by_cases hi:i<k
   . have z6:=zt i k
     have hgi:=fX s i zo;have kv:=eB s i;have m:=and192 _ kv;have au:=mF i;by_cases hc:bL s i / 64=2
     . rw[decide_eq_true hc,Bool.not_true] at m
       have m63:=and63 _ kv;have ym:=cN_lt s i zo;have YA:cN s (i+1)=64*cN s i+bL s i%64:=by
        obtain⟨j,rfl⟩:∃ j,i=j+1:=⟨i-1,zo⟩;rfl
       have Fg:=Θ YA hc;clear YA hc;generalize cN s i=c at ym Fg ⊢;have hcw:=lM (n:=64*(c:Int));go_wp2_with fail;go_roundw
       case rel=>exact⟨i+1,by go_num,by rw[Fg.o.1];go_num,zo,zo,λj j1 j2=>by
        rcases zLg j i with h|h
        . exact H3.o j j1 h
        obtain rfl:j=i:=by omega
        exact Fg.o.2,trivial⟩
       grind [RowKit.intOf]
     rw[decide_eq_false hc,Bool.not_false] at m
     have e:=HK.o.2.2.1.2 (.inr (.inl λh=>hc (h i h1 hi)));have HE:=zh e;clear e;go_wp2_with fail;refine bodyPost_ret (v:=ϕ #[ι (-1),ι 1]) zzAX rfl ?_;exact zzBp
   have GO:i=k:=zo
   subst GO;have z6:=zn i i
   have ym:=cN_lt s i zo;have e0:=HK.o.2.1;rw[e0] at ym ⊢;clear e0;have hs:=yG (c:Int) zo wr;obtain⟨b,Qy⟩:∃ b,gZ (c:Int)=b:=⟨_,rfl⟩;rw[Qy] at hs;have HS:=zh hs;have HB:=zh Qy;clear hs Qy;by_cases Hf:c<fH i
   . have e:=HK.o.2.2.1.2 (.inr (.inr (.inl Hf)))
     have HE:=zh e;clear e;have z7:(c:Int)<((fH i:Nat):Int):=zo
     go_wp2_with (first|(go_at_call 93;refine HS.o.mono ?_;rintro e9 w9 ⟨rfl,rfl⟩));refine bodyPost_ret (v:=ϕ #[ι (-1),ι 1]) zzAX rfl ?_;exact zzBp
   have z7:¬ (c:Int)<((fH i:Nat):Int):=zo
   cases b with
   | false=>
    have e:=HK.o.2.2.1.2 (.inr (.inr (.inr HB.o)));have HE:=zh e;clear e;go_wp2_with (first|(go_at_call 93;refine HS.o.mono ?_;rintro e9 w9 ⟨rfl,rfl⟩));refine bodyPost_ret (v:=ϕ #[ι (-1),ι 1]) zzAX rfl ?_;exact zzBp
   | true=>
    have e:=HK.o.2.2.1.1 zo H3.o zo HB.o;have HE:=zh e;clear e;go_wp2_with (first|(go_at_call 93;refine HS.o.mono ?_;rintro e9 w9 ⟨rfl,rfl⟩));refine bodyPost_ret (v:=ϕ #[ι c,ι i]) zzAX rfl ?_;exact⟨by rw[HE.o],rfl⟩
end
section
open Go.Lib (firstT accLo accHi decodeN)
def hiT (T:dX) (k:Nat):Int:=if k+1<I T.cU then χ T.cU (k+1) 0-1 else 1114111
def SurT (T:dX):Prop:=∀ set k,0<=χ (χ T.gO set []) k (-1)->(hiT T k<55296\/57344<=χ T.cU k 0)/\0<=χ T.cU k 0/\hiT T k<=1114111
def canAt (T:dX) (set n b0 b1 b2 k:Nat):Bool:=decide (0<=χ (χ T.gO set []) k (-1))&&jL (χ T.cU k 0) (hiT T k) n b0 b1 b2
def canR (T:dX) (set n b0 b1 b2:Nat):Bool:=(List.range (I (χ T.gO set []))).any (canAt T set n b0 b1 b2)
theorem any_and {α:Type} (b:Bool) (p:α->Bool) (l:List α):l.any (λx=>b&&p x)=(b&&l.any p):=by
 cases b<;>simp
theorem can_part {T:dX} {set n m b0 b1 b2:Nat} (hS:SurT T) (hn:0<n) (ke:n<=3) (h0:b0<256) (h1:b1<256) (h2:b2<256):gK T set n m b0 b1 b2=(decide (n<=m)&&canR T set n b0 b1 b2):=by
 unfold gK mH hitT canR;rw[<-any_and];congr 2;funext k;unfold canAt zdc;by_cases hg:0<=χ (χ T.gO set []) k (-1)
 . obtain⟨a,b,c⟩:=hS set k hg
   rw[zaw hn ke h0 h1 h2 a b c,decide_eq_true hg];cases fG n b0 b1 b2
   . simp only[Bool.not_false,Bool.true_and,decide_eq_decide]
     rw[show (if k+1<I T.cU then χ T.cU (k+1) 0-1 else 1114111)=hiT T k from rfl]
   rfl
 rw[decide_eq_false hg]
 simp
theorem zdV {n b0 b1 b2:Nat} (hn:0<n) (ke:n<=3) (h0:b0<256) (h1:b1<256) (h2:b2<256):(jL 0 55295 n b0 b1 b2||jL 57344 1114111 n b0 b1 b2)= !fG n b0 b1 b2:=by
 rw[zaw hn ke h0 h1 h2 (.inl zd) zd zd,zaw hn ke h0 h1 h2 (.inr zd) zd zd,<-Bool.and_or_distrib_left];cases hf:fG n b0 b1 b2 with
 | true=>rfl
 | false=>
  simp only[Bool.not_false,Bool.true_and,Bool.or_eq_true,decide_eq_true_eq];have Xj:n=1\/n=2\/n=3:=zo
  rcases (by omega:(b0<194\/245<=b0)\/(194<=b0/\b0<224)\/(224<=b0/\b0<240)\/(240<=b0/\b0<245)) with h|h|h|h
  . rw[zds h h0 hn] at hf;cases hf
  . have hl:eX b0=2:=by unfold eX;rw[zN zo,zN zo]
    rw[xO h.1 h.2 h1] at hf;have:n=1:=by simp at hf;omega
    subst this;exact zzCO
  . have hl:eX b0=3:=by unfold eX;rw[zN zo,zP zo]
    have GF:¬ (3<=n\/(2<=n/\¬ (b1 / 64=2/\(b0=224->160<=b1)/\(b0=237->b1<160)))):=by rw[<-xP (n:=n) (b2:=b2) h.1 h.2 h1,hf];simp
    rcases Xj with rfl|rfl|rfl
    . exact zzCO
    . exact zzCO
    omega
  have hl:eX b0=4:=by unfold eX;rw[zP zo]
  have GF:¬ (4<=n\/(2<=n/\¬ (b1 / 64=2/\(b0=240->144<=b1)/\(b0=244->b1<144)))\/(3<=n/\¬ b2 / 64=2)):=by rw[<-xQ (n:=n) (b2:=b2) h.1 h.2 h1,hf];simp
  rcases Xj with rfl|rfl|rfl
  . exact zzCO
  . exact zzCO
  exact zzCO
theorem zef (h:0<=(bT s p).1):fY s p=true/\p<s.size:=by
 unfold bT at h;by_cases hp:p<s.size
 . rw[zP hp] at h
   split at h
   . cases h
   rename_i hv
   have hd:=lU s p;obtain⟨x,k,hx,hh⟩:=iL s p hp hv;rw[hx] at hd hv;exact⟨zae (eB _ _) (eB _ _) hd.symm hv zo zo,hp⟩
 rw[zN hp] at h;cases h
theorem zgN (h:0<=(bT s p).1):(bT s p).1=((δ s p).1:Int)/\(bT s p).2=(δ s p).2/\¬ δ s p=(65533,1):=by
 have hp:=(zef h).2;unfold bT at h ⊢;rw[zP hp] at h ⊢;split at h
 . cases h
 rename_i hv
 rw[zN hv];exact⟨rfl,rfl,λe=>hv (by rw[e];exact⟨rfl,rfl⟩)⟩
theorem ziy {T:dX} {set:Nat}:dC T s set p=true↔0<=(bT s p).1/\0<=fQ T set (bT s p).1:=by
 unfold dC;simp only[Bool.and_eq_true,decide_eq_true_eq,Bool.not_eq_true',decide_eq_false_iff_not];constructor
 . rintro⟨h1,h2,h3,h4⟩
   have e:(bT s p).1=((δ s p).1:Int):=by
    unfold bT;rw[zP h1,zN (λe=>h3 (Prod.ext e.1 e.2))]
   rw[e];exact⟨zo,h4⟩
 rintro⟨h1,h2⟩
 have h3:=zgN h1;have h4:=zef h1;rw[h3.1] at h2;exact⟨h4.2,h4.1,h3.2.2,h2⟩
theorem wait_one (h0:0<s.size):fY s 0=false↔(bT s 0).1<0/\s.size<4/\(jL 0 55295 s.size (bL s 0) (bL s 1) (bL s 2)||jL 57344 1114111 s.size (bL s 0) (bL s 1) (bL s 2))=true:=by
 constructor
 . intro h
   have h3:=qS (eB s 0) h;refine⟨?_,zo,?_⟩
   . rcases Int.lt_or_le (bT s 0).1 0 with h1|h1
     . exact h1
     rw[(zef h1).1] at h;cases h
   rw[zdV h0 zo (eB _ _) (eB _ _) (eB _ _)]
   unfold fY at h;simp only[Nat.sub_zero,Nat.zero_add] at h;rw[h];rfl
 rintro⟨_,h2,h3⟩
 rw[zdV h0 zo (eB _ _) (eB _ _) (eB _ _)] at h3;unfold fY;simpa using h3
end
section
open Go.RowKit Go.Lib Tryz
def stS (lo hi:Int) (s:η):Bool:=jL lo hi s.size (bL s 0) (bL s 1) (bL s 2)
theorem wN_of {b:Nat} (h1:194<=b) (h2:b<245):wN b=sR b/\eX b=sR b/\2<=sR b/\sR b<=4:=by
 unfold wN sR eX
 repeat' split
 all_goals omega
theorem bits_c (h1:194<=bL s 0) (h2:bL s 0<245) (hn:1<=s.size) (ke:s.size<=3):iP s.size (bL s 0) (bL s 1) (bL s 2)=cN s s.size:=by
 have e:bL s 0%2^(7-eX (bL s 0))=sQ (bL s 0):=by
  unfold eX sQ
  repeat' split
  all_goals first|omega|rfl
 unfold iP;rw[e]
 rcases (by omega:s.size=1\/s.size=2\/s.size=3) with h|h|h<;>rw[h]
 . rfl
 . simp only[cN];simp;omega
 simp only[cN];simp;omega
theorem zeO (h:¬ s.size<wN (bL s 0)):stS lo hi s=false:=by
 unfold stS jL;rw[decide_eq_false h];rfl
theorem st_cont {i:Nat} (TW:1<=i) (Yj:i<s.size) (h3:s.size<=3) (h:¬ bL s i / 64=2):stS lo hi s=false:=by
 unfold stS jL
 rcases (by omega:i=1\/i=2) with rfl|rfl
 . rw[decide_eq_false (show ¬ (s.size<2\/bL s 1 / 64=2) by omega)];simp
 rw[decide_eq_false (show ¬ (s.size<3\/bL s 2 / 64=2) by omega)];simp
theorem st_end (h1:194<=bL s 0) (h2:bL s 0<245) (hn:1<=s.size) (hk:s.size<sR (bL s 0)) (hc:zff s s.size):
 stS lo hi s=decide (max (max ((cN s s.size*64^(sR (bL s 0)-s.size):Nat):Int) (fH (sR (bL s 0)))) lo<=min ((((cN s s.size+1)*64^(sR (bL s 0)-s.size):Nat):Int)-1) hi):=by
 obtain⟨e1,e2,e3,e4⟩:=wN_of h1 h2;unfold stS jL;rw[bits_c h1 h2 hn zo,e1,e2,decide_eq_true hk,decide_eq_true (show s.size<2\/bL s 1 / 64=2 from by
  rcases zLg s.size 2 with h|h
  . exact .inl h
  . exact .inr (hc 1 zo zo)),decide_eq_true (show s.size<3\/bL s 2 / 64=2 from by
  rcases zLg s.size 3 with h|h
  . exact .inl h
  exact .inr (hc 2 zo zo))]
 rfl
theorem zdP (lo hi:Int) (s:η) (h0:0<s.size) (hz:s.size<1000000) (w:ω):
 Γ 94 #[ι lo,ι hi,γ s] w λe w'=>e=ρ (φ (stS lo hi s))/\w.u w':=by
 have hb:=eB s 0;have hg0:=fX s 0 h0;obtain⟨r,hr⟩:=zE (stS lo hi s);rw[<-hr];have HR:=zh hr;clear hr;by_cases g2:bL s 0<194
 . have e:r=false:=by rw[HR.o,zeO zzDm]
   subst e;clear HR;have z3:¬ (194:Int)<=(bL s 0:Int):=zo
   have z4:¬ (224:Int)<=(bL s 0:Int):=zo
   have z5:¬ (240:Int)<=(bL s 0:Int):=zo
   have z6:(0:Int)<=(s.size:Int):=zo
   go_in;exact zzCe
 by_cases g5:245<=bL s 0
 . have e:r=false:=by rw[HR.o,zeO zzDm]
   subst e;clear HR;have z3:(194:Int)<=(bL s 0:Int):=zo
   have z4:(224:Int)<=(bL s 0:Int):=zo
   have z5:(240:Int)<=(bL s 0:Int):=zo
   have z6:(0:Int)<=(s.size:Int):=zo
   have z7:¬ (bL s 0:Int)<224:=zo
   have z8:¬ (bL s 0:Int)<240:=zo
   have z9:¬ (bL s 0:Int)<245:=zo
   go_in;exact zzCe
 obtain⟨k,hk⟩:∃ k,sR (bL s 0)=k:=⟨_,rfl⟩;have hw:=wN_of (b:=bL s 0) zo zo;rw[hk] at hw;have HK:=Θ hk hw;have HB:=zh (show 194<=bL s 0/\bL s 0<245 by omega);have m31:=and31 _ hb;have m15:=and15 _ hb;have m7:=and7 _ hb;have z3:(194:Int)<=(bL s 0:Int):=zo
 clear hk hw;go_in
 go_upto_block 0 with fail
 go_cut [8,9] (λs8 s9 wx=>s8=ι k/\s9=ι (sQ (bL s 0):Nat)/\wx=w)
 case first=>
  by_cases g3:bL s 0<224
  . have e1:sQ (bL s 0)=bL s 0%32:=by unfold sQ;rw[zP g3]
    have e2:k=2:=by have:=HK.o.1;unfold sR at this;rw[zP g3] at this;exact this.symm
    subst e2;have E1:=zh e1;clear e1;have z4:(bL s 0:Int)<224:=zo
    exact zzCi
  have z4:¬ (bL s 0:Int)<224:=zo
  have z5:(224:Int)<=(bL s 0:Int):=zo
  by_cases g4:bL s 0<240
  . have e1:sQ (bL s 0)=bL s 0%16:=by unfold sQ;rw[zN g3,zP g4]
    have e2:k=3:=by have:=HK.o.1;unfold sR at this;rw[zN g3,zP g4] at this;exact this.symm
    subst e2;have E1:=zh e1;clear e1;have z6:(bL s 0:Int)<240:=zo
    exact zzCi
  . have e1:sQ (bL s 0)=bL s 0%8:=by unfold sQ;rw[zN g3,zN g4]
    have e2:k=4:=by have:=HK.o.1;unfold sR at this;rw[zN g3,zN g4] at this;exact this.symm
    subst e2;have E1:=zh e1;clear e1;have z6:¬ (bL s 0:Int)<240:=zo
    have z7:(240:Int)<=(bL s 0:Int):=zo
    have z8:(bL s 0:Int)<245:=zo
    exact zzCi
 case rest=>
  obtain⟨rfl,rfl,rfl⟩:=hcut;clear m31 m15 m7 hg0 z3;have U5:=HK.o.2.2.2;by_cases hn:k<=s.size
  . have e:r=false:=by rw[HR.o,zeO (by rw[HK.o.2.1];omega)]
    subst e;have z5:=zu k s.size
    exact zzCe
  have z5:¬ (k:Int)<=(s.size:Int):=zo
  go_wp2;go_loopw [9,10] (λs9 XJ wr=>∃ i:Nat,XJ=ι i/\s9=ι (cN s i:Nat)/\1<=i/\i<=s.size/\zff s i/\wr=wc) (λ_ XJ _=>s.size-(ϑ XJ).toNat)
  case atStart=>exact⟨1,rfl,rfl,zo,h0,λj h1 h2=>zo,rfl⟩
  case round=>
   obtain⟨i,rfl,rfl,h1,h2,h3,rfl⟩:=hrel;have H3:=zh h3;clear h3;by_cases Dr:i<s.size
   . have z6:=zt i s.size
     have hgi:=fX s i Dr;have kv:=eB s i;have m:=and192 _ kv;have au:=mF i;by_cases hc:bL s i / 64=2
     . rw[decide_eq_true hc,Bool.not_true] at m
       have m63:=and63 _ kv;have ym:=cN_lt s i zo;have YA:cN s (i+1)=64*cN s i+bL s i%64:=by
        obtain⟨j,rfl⟩:∃ j,i=j+1:=⟨i-1,zo⟩;rfl
       have Fg:=Θ YA hc;clear YA hc;generalize cN s i=c at ym Fg ⊢;have hcw:=lM (n:=64*(c:Int));go_wp2;go_roundw
       case rel=>exact⟨i+1,by go_num,by rw[Fg.o.1];go_num,zo,zo,λj j1 j2=>by
        rcases zLg j i with h|h
        . exact H3.o j j1 h
        . obtain rfl:j=i:=by omega
          exact Fg.o.2,trivial⟩
       case measure=>exact zY
     rw[decide_eq_false hc,Bool.not_false] at m
     have e:r=false:=by rw[HR.o,st_cont h1 Dr zo hc]
     subst e;exact zzCe
   have z6:=zn i s.size
   obtain rfl:i=s.size:=by omega
   have HE:=zh (HR.o.trans (st_end HB.o.1 HB.o.2 h0 (by rw[HK.o.1];omega) H3.o));rw[HK.o.1] at HE;have ym:=cN_lt s s.size zo;clear HR;generalize cN s s.size=c at ym HE ⊢;go_wp2;go_loopw [11,12,13] (λVT s12 s13 wr2=>∃ i:Nat,s13=ι i/\VT=ι (c*64^(i-s.size):Nat)/\s12=ι ((((c+1)*64^(i-s.size):Nat):Int)-1)/\s.size<=i/\i<=k/\wr2=wr) (λ_ _ s13 _=>k-(ϑ s13).toNat)
   case atStart=>exact⟨s.size,rfl,zs,zs,bR,zo,rfl⟩
   case round=>
    obtain⟨i,rfl,rfl,rfl,j1,j2,rfl⟩:=hrel;have hp:64^(i-s.size)<=262144:=zT (Nat.pow_le_pow_right zd (show i-s.size<=3 by omega)) zd;have Qd:1<=64^(i-s.size):=Nat.pow_pos zd;obtain⟨P,hP⟩:=zE (64^(i-s.size));rw[<-hP] at hp Qd ⊢;have hcP:c*P<=c*262144:=Nat.mul_le_mul_left _ hp;have hcQ:1<=(c+1)*P/\(c+1)*P<=(c+1)*262144:=⟨Nat.mul_pos zo Qd,Nat.mul_le_mul_left _ hp⟩;by_cases GO:i<k
    . have z7:=zt i k
      have au:=mF i;have Bh:64^(i+1-s.size)=64*P:=by rw[show i+1-s.size=(i-s.size)+1 by omega,Nat.pow_succ,hP,Nat.mul_comm]
      have e1:c*64^(i+1-s.size)=64*(c*P):=by rw[Bh,Nat.mul_left_comm]
      have e2:(c+1)*64^(i+1-s.size)=64*((c+1)*P):=by rw[Bh,Nat.mul_left_comm]
      have xz:=Θ e1 e2;clear e1 e2 Bh hP;generalize c*P=X at hcP xz ⊢;generalize (c+1)*P=Y at hcQ xz ⊢;have w1:=lM (n:=64*(X:Int));have w2:=lM (n:=64*((Y:Int)-1));have w3:=lM (n:=64*((Y:Int)-1)+63);go_wp2;go_roundw
      case rel=>exact⟨i+1,by go_num,by rw[xz.o.1];go_num,by rw[xz.o.2];congr 1;push_cast;omega,zo,zo,trivial⟩
      case measure=>exact zY
    have z7:=zn i k
    obtain rfl:i=k:=by omega
    rw[<-hP] at HE;clear hP;generalize c*P=X at hcP HE ⊢;generalize (c+1)*P=Y at hcQ HE ⊢;have X5:=(zBr wr.t wr).alloc bR (Ω #[ι 0,ι 0,ι 128,ι 2048,ι 65536] 3);obtain⟨L,hL⟩:∃ L:Int,L=(fH i:Int):=⟨_,rfl⟩;rw[<-hL] at HE;have hcL:(κ wr (Ω #[ι 0,ι 0,ι 128,ι 2048,ι 65536] 3)).i wr.t i L:=by
     rw[hL]
     rcases (by omega:i=2\/i=3\/i=4) with h|h|h<;>rw[h]<;>simp[fH]
    have ve:=zh X5;have zk:(i:Int)<5:=zo
    clear X5 hL HK;have fin:∀ (F E:Int),F=max (max (X:Int) L) lo->E=min ((Y:Int)-1) hi->Ending.returned (φ (decide (F<=E)))=Ending.returned (φ r):=λF E h1 h2=>by rw[h1,h2,HE.o]
    have FIN:=zh fin;clear fin
    rcases Int.lt_or_le (X:Int) L with a1|a1
    . rcases Int.lt_or_le L lo with a2|a2<;>rcases Int.lt_or_le hi ((Y:Int)-1) with a3|a3<;>
       (go_wp2;go_ret;exact⟨FIN.o _ _ zo zo,ve.o⟩)
    rcases Int.lt_or_le (X:Int) lo with a2|a2<;>rcases Int.lt_or_le hi ((Y:Int)-1) with a3|a3<;>
     (go_wp2;go_ret;exact⟨FIN.o _ _ zo zo,ve.o⟩)
