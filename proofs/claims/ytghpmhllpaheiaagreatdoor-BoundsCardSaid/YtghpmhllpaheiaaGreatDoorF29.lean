/- Part of a proof. No condition. -/
import Derived.Deep.CutBlock
import Derived.Deep.DeepCutAuto
import Derived.Test.YtghpmhllpaheiaaGreatDoorF03
set_option linter.unusedVariables false
set_option linter.unusedSimpArgs false
set_option maxRecDepth 100000
namespace Go.Proofs.YtghpmhllpaheiaaGreatDoor
open Go.RowKit Go.Lib
def bQ (s:ByteArray) (p:Nat):Int×Nat:=
 if p<s.size then (if (Utf8.decode s p).1=65533/\(Utf8.decode s p).2=1 then (-1,1) else (((Utf8.decode s p).1:Int),(Utf8.decode s p).2)) else (-1,0)
def fT (c:Int):Bool:=decide (0<=c/\c<=1114111/\(c<55296\/57343<c))
theorem sB (c:Int) (hc: -1<=c/\c<300000000) (w:World):Calls Tryz.prog 160 #[.int .i64 c] w λe w'=>e=.returned (.bool (fT c))/\w'=w:=by
 rcases (by omega:c<0\/(0<=c/\c<55296)\/(55296<=c/\c<=57343)\/(57343<c/\c<=1114111)\/1114111<c) with h|⟨h,h'⟩|⟨h,h'⟩|⟨h,h'⟩|h
 . have e:fT c=false:=decide_eq_false (by omega)
   rw[e];have z1:¬ 0<=c:=by omega
   go_enter Tryz.func160,Tryz.ntmps160;go_wp2;go_ret;exact⟨rfl,rfl⟩
 . have e:fT c=true:=decide_eq_true (by omega)
   rw[e];have z1:c<=1114111:=by omega
   go_enter Tryz.func160,Tryz.ntmps160;go_wp2;go_ret;exact⟨rfl,rfl⟩
 . have e:fT c=false:=decide_eq_false (by omega)
   rw[e];have z1:c<=1114111:=by omega
   have z2:0<=c:=by omega
   have z3:¬ c<55296:=by omega
   have z4:¬ 57343<c:=by omega
   go_enter Tryz.func160,Tryz.ntmps160;go_wp2;go_ret;exact⟨rfl,rfl⟩
 . have e:fT c=true:=decide_eq_true (by omega)
   rw[e];have z2:0<=c:=by omega
   have z3:¬ c<55296:=by omega
   go_enter Tryz.func160,Tryz.ntmps160;go_wp2;go_ret;exact⟨rfl,rfl⟩
 have e:fT c=false:=decide_eq_false (by omega)
 rw[e];have z1:¬ c<=1114111:=by omega
 have z2:0<=c:=by omega
 go_enter Tryz.func160,Tryz.ntmps160;go_wp2;go_ret;exact⟨rfl,rfl⟩
def refW (b:Nat):Nat:=if b<224 then 2 else if b<240 then 3 else 4
def refC (b:Nat):Nat:=if b<224 then b%32 else if b<240 then b%16 else b%8
def cN (s:ByteArray):Nat->Nat
 | 0=>0
 | 1=>refC (cE s 0)
 | i+2=>64*cN s (i+1)+cE s (i+1)%64
def zdL (s:ByteArray) (i:Nat):Prop:=∀ j,1<=j->j<i->cE s j / 64=2
theorem cN_lt (s:ByteArray):∀ i,i<=4->cN s i<32*64^3:=by
 intro i hi;have h1:refC (cE s 0)<32:=by unfold refC;split<;>(try split)<;>omega
 rcases (by omega:i=0\/i=1\/i=2\/i=3\/i=4) with rfl|rfl|rfl|rfl|rfl<;>simp only[cN]<;>omega
theorem one_lead {s:ByteArray} (h0:0<s.size) (h1:194<=cE s 0) (h2:cE s 0<245) {w c:Nat} (hw:refW (cE s 0)=w) (hc:cN s w=c):
 (w<=s.size->zdL s w->rP w<=c->fT c=true->bQ s 0=((c:Int),w))/\((s.size<w\/¬ zdL s w\/c<rP w\/fT c=false)->bQ s 0=(-1,1)):=by
 have hd:=rG s 0;have Sk:zdL s w↔∀ j,1<=j->j<w->cE s j / 64=2:=Iff.rfl;have b1:=mT s 1;have b2:=mT s 2;unfold bQ;rw[zP h0];simp only[Nat.zero_add,Nat.sub_zero] at hd;by_cases g3:cE s 0<224
 . obtain rfl:w=2:=by unfold refW at hw;rw[zP g3] at hw;exact hw.symm
   have XA:c=cE s 0%32*64+cE s 1%64:=by rw[<-hc];simp only[cN,refC,zP g3,Nat.zero_add,Nat.reduceAdd];omega
   rw[zad h1 g3] at hd;have hk:zdL s 2↔cE s 1 / 64=2:=⟨λh=>h 1 (by omega) (by omega),λh j h1 h2=>by
    obtain rfl:j=1:=by omega
    exact h⟩
   rw[hk];simp only[rP,fT,eq_self,if_true,decide_eq_true_eq,decide_eq_false_iff_not];refine⟨λk1 k2 k3 k4=> ?_,λh=> ?_⟩
   . rw[zP ⟨by omega,k2⟩] at hd;rw[hd,zN (by simp),XA]
   rw[zN (by omega)] at hd;rw[hd,zP ⟨rfl,rfl⟩]
 by_cases g4:cE s 0<240
 . obtain rfl:w=3:=by unfold refW at hw;rw[zN g3,zP g4] at hw;exact hw.symm
   have XA:c=cE s 0%16*4096+cE s 1%64*64+cE s 2%64:=by rw[<-hc];simp only[cN,refC,zN g3,zP g4,Nat.zero_add,Nat.reduceAdd];omega
   rw[zae (by omega) g4] at hd;have hk:zdL s 3↔cE s 1 / 64=2/\cE s 2 / 64=2:=⟨λh=>⟨h 1 (by omega) (by omega),h 2 (by omega) (by omega)⟩,λh j h1 h2=>by
    rcases (by omega:j=1\/j=2) with rfl|rfl
    . exact h.1
    exact h.2⟩
   rw[hk];simp only[rP,fT,eq_self,if_true,decide_eq_true_eq,decide_eq_false_iff_not,show ¬ ((3:Nat)=2) by decide,if_false];refine⟨λk1 k2 k3 k4=> ?_,λh=> ?_⟩
   . rw[zP ⟨by omega,k2.1,k2.2,by omega,by omega⟩] at hd;rw[hd,zN (by simp),XA]
   rw[zN (fun⟨q1,q2,q3,q4,q5⟩=>by
    rcases h with h|h|h|h
    . omega
    . exact h ⟨q2,q3⟩
    . by_cases e:cE s 0=224
      . have:=q4 e;omega
      omega
    by_cases e:cE s 0=237
    . have:=q5 e;omega
    omega)] at hd
   rw[hd,zP ⟨rfl,rfl⟩]
 obtain rfl:w=4:=by unfold refW at hw;rw[zN g3,zN g4] at hw;exact hw.symm
 have XA:c=cE s 0%8*262144+cE s 1%64*4096+cE s 2%64*64+cE s 3%64:=by rw[<-hc];simp only[cN,refC,zN g3,zN g4,Nat.zero_add,Nat.reduceAdd];omega
 rw[zaf (by omega) h2] at hd;have hk:zdL s 4↔cE s 1 / 64=2/\cE s 2 / 64=2/\cE s 3 / 64=2:=⟨λh=>⟨h 1 (by omega) (by omega),h 2 (by omega) (by omega),h 3 (by omega) (by omega)⟩,λh j h1 h2=>by
  rcases (by omega:j=1\/j=2\/j=3) with rfl|rfl|rfl
  . exact h.1
  . exact h.2.1
  exact h.2.2⟩
 rw[hk];simp only[rP,fT,eq_self,if_true,decide_eq_true_eq,decide_eq_false_iff_not,show ¬ ((4:Nat)=2) by decide,show ¬ ((4:Nat)=3) by decide,if_false];refine⟨λk1 k2 k3 k4=> ?_,λh=> ?_⟩
 . rw[zP ⟨by omega,k2.1,k2.2.1,k2.2.2,by omega,by omega⟩] at hd;rw[hd,zN (by simp),XA]
 rw[zN (fun⟨q1,q2,q3,q6,q4,q5⟩=>by
  rcases h with h|h|h|h
  . omega
  . exact h ⟨q2,q3,q6⟩
  . by_cases e:cE s 0=240
    . have:=q4 e;omega
    omega
  by_cases e:cE s 0=244
  . have:=q5 e;omega
  omega)] at hd
 rw[hd,zP ⟨rfl,rfl⟩]
theorem and192:∀ n:Nat,n<256->(bits BinOp.and IntKind.i64 (n:Int) 192 != 128)= !decide (n / 64=2):=by decide+kernel
theorem and63:∀ n:Nat,n<256->bits BinOp.and IntKind.i64 (n:Int) 63=((n%64:Nat):Int):=by decide+kernel
theorem and31:∀ n:Nat,n<256->bits BinOp.and IntKind.i64 (n:Int) 31=((n%32:Nat):Int):=by decide+kernel
theorem and15:∀ n:Nat,n<256->bits BinOp.and IntKind.i64 (n:Int) 15=((n%16:Nat):Int):=by decide+kernel
theorem and7:∀ n:Nat,n<256->bits BinOp.and IntKind.i64 (n:Int) 7=((n%8:Nat):Int):=by decide+kernel
theorem one_any (s:ByteArray) (w:World):Calls Tryz.prog 134 #[.string s] w λe w'=>e=.returned (.tuple #[.int .i64 (bQ s 0).1,.int .i64 ((bQ s 0).2:Nat)])/\w'=w:=by
 by_cases h0:s.size=0
 . have e:bQ s 0=(-1,0):=by unfold bQ;rw[zN (by omega)]
   rw[e];have z1:(s.size:Int)=0:=by omega
   go_enter Tryz.func134,Tryz.ntmps134;go_wp2;refine bodyPost_ret (v:=.tuple #[.int .i64 (-1),.int .i64 0]) (by simp[results,Tryz.results134,go_sem]) rfl ?_;exact⟨rfl,rfl⟩
 have hb:=mT s 0;have hd:=rG s 0;have z1:¬ (s.size:Int)=0:=by omega
 have z0:0<s.size:=by omega
 have hg0:=fP s 0 z0;by_cases g1:cE s 0<128
 . have e:bQ s 0=((cE s 0:Int),1):=by
    unfold bQ;rw[zP z0,hd,Lib.decodeN,zP g1,zN (by dsimp only;omega)]
   rw[e];have z2:(cE s 0:Int)<128:=by omega
   go_enter Tryz.func134,Tryz.ntmps134;go_wp2;refine bodyPost_ret (v:=.tuple #[.int .i64 (cE s 0:Int),.int .i64 1]) (by simp[results,Tryz.results134,go_sem]) rfl ?_;exact⟨rfl,rfl⟩
 have z2:¬ (cE s 0:Int)<128:=by omega
 by_cases g2:cE s 0<194
 . have e:bQ s 0=(-1,1):=by
    unfold bQ;rw[zP z0,hd,rF (.inl ⟨by omega,g2⟩) hb,zP ⟨rfl,rfl⟩]
   rw[e];have z3:¬ (194:Int)<=(cE s 0:Int):=by omega
   have z4:¬ (224:Int)<=(cE s 0:Int):=by omega
   have z5:¬ (240:Int)<=(cE s 0:Int):=by omega
   go_enter Tryz.func134,Tryz.ntmps134;go_wp2;refine bodyPost_ret (v:=.tuple #[.int .i64 (-1),.int .i64 1]) (by simp[results,Tryz.results134,go_sem]) rfl ?_;exact⟨rfl,rfl⟩
 by_cases g5:245<=cE s 0
 . have e:bQ s 0=(-1,1):=by
    unfold bQ;rw[zP z0,hd,rF (.inr g5) hb,zP ⟨rfl,rfl⟩]
   rw[e];have z3:(194:Int)<=(cE s 0:Int):=by omega
   have z4:(224:Int)<=(cE s 0:Int):=by omega
   have z5:(240:Int)<=(cE s 0:Int):=by omega
   have z6:¬ (cE s 0:Int)<224:=by omega
   have z7:¬ (cE s 0:Int)<240:=by omega
   have z8:¬ (cE s 0:Int)<245:=by omega
   go_enter Tryz.func134,Tryz.ntmps134;go_wp2;refine bodyPost_ret (v:=.tuple #[.int .i64 (-1),.int .i64 1]) (by simp[results,Tryz.results134,go_sem]) rfl ?_;exact⟨rfl,rfl⟩
 obtain⟨k,hk⟩:∃ k,refW (cE s 0)=k:=⟨_,rfl⟩;obtain⟨c,hc⟩:∃ c,cN s k=c:=⟨_,rfl⟩;have hO:=one_lead z0 (by omega) (by omega) hk hc;have Oa:2<=k/\k<=4:=by rw[<-hk];unfold refW;split<;>(try split)<;>omega
 have m31:=and31 _ hb;have m15:=and15 _ hb;have m7:=and7 _ hb;have HK:=zh (zAi hk (zAi hc (zAi hO Oa)));have z3:(194:Int)<=(cE s 0:Int):=by omega
 clear hd hk hc hO Oa;go_enter Tryz.func134,Tryz.ntmps134
 go_upto_block 0 with (fail)
 go_cut [5,6,7] (λs5 s6 s7 wx=>s5=.int .i64 k/\s6=.int .i64 (refC (cE s 0):Nat)/\s7=.int .i64 (rP k:Nat)/\wx=w)
 case first=>
  by_cases g3:cE s 0<224
  . have e1:refC (cE s 0)=cE s 0%32:=by unfold refC;rw[zP g3]
    have e2:k=2:=by have:=HK.o.1;unfold refW at this;rw[zP g3] at this;exact this.symm
    subst e2;have E1:=zh e1;clear e1;have z4:(cE s 0:Int)<224:=by omega
    go_wp2_with (fail);go_meet;exact⟨rfl,by rw[E1.o];simp,rfl,rfl⟩
  have z4:¬ (cE s 0:Int)<224:=by omega
  have z5:(224:Int)<=(cE s 0:Int):=by omega
  by_cases g4:cE s 0<240
  . have e1:refC (cE s 0)=cE s 0%16:=by unfold refC;rw[zN g3,zP g4]
    have e2:k=3:=by have:=HK.o.1;unfold refW at this;rw[zN g3,zP g4] at this;exact this.symm
    subst e2;have E1:=zh e1;clear e1;have z6:(cE s 0:Int)<240:=by omega
    go_wp2_with (fail);go_meet;exact⟨rfl,by rw[E1.o];simp,rfl,rfl⟩
  . have e1:refC (cE s 0)=cE s 0%8:=by unfold refC;rw[zN g3,zN g4]
    have e2:k=4:=by have:=HK.o.1;unfold refW at this;rw[zN g3,zN g4] at this;exact this.symm
    subst e2;have E1:=zh e1;clear e1;have z6:¬ (cE s 0:Int)<240:=by omega
    have z7:(240:Int)<=(cE s 0:Int):=by omega
    have z8:(cE s 0:Int)<245:=by omega
    go_wp2_with (fail);go_meet;exact⟨rfl,by rw[E1.o];simp,rfl,rfl⟩
 case rest=>
  obtain⟨rfl,rfl,rfl,rfl⟩:=hcut;clear m31 m15 m7;by_cases hn:s.size<k
  . have e:=HK.o.2.2.1.2 (.inl hn)
    have HE:=zh e;clear e;have z5:(s.size:Int)<(k:Int):=by omega
    go_wp2;refine bodyPost_ret (v:=.tuple #[.int .i64 (-1),.int .i64 1]) (by simp[results,Tryz.results134,go_sem]) rfl ?_;exact⟨by rw[HE.o];rfl,rfl⟩
  have z5:¬ (s.size:Int)<(k:Int):=by omega
  go_wp2;go_loopw [6,8] (λs6 s8 wr=>∃ i:Nat,s8=.int .i64 i/\s6=.int .i64 (cN s i:Nat)/\1<=i/\i<=k/\zdL s i/\wr=wc) (λ_ s8 _=>k-(RowKit.intOf s8).toNat)
  case atStart=>exact⟨1,rfl,rfl,by omega,by have:=HK.o.2.2.2;omega,λj h1 h2=>by omega,rfl⟩
  case round=>
   obtain⟨i,rfl,rfl,h1,h2,h3,rfl⟩:=hrel;have H3:=zh h3;clear h3;have Oa:=HK.o.2.2.2;by_cases hi:i<k
   . have z6:(i:Int)<(k:Int):=by omega
     have hgi:=fP s i (by omega);have ko:=mT s i;have m:=and192 _ ko;have ui:=zW i (by omega);by_cases hc:cE s i / 64=2
     . rw[decide_eq_true hc,Bool.not_true] at m
       have m63:=and63 _ ko;have yp:=cN_lt s i (by omega);have YL:cN s (i+1)=64*cN s i+cE s i%64:=by
        obtain⟨j,rfl⟩:∃ j,i=j+1:=⟨i-1,by omega⟩;rfl
       have LB:=zh (zAi YL hc);clear YL hc;generalize cN s i=c at yp LB ⊢;have Sl:IntKind.i64.wrap (64*(c:Int))=64*(c:Int):=zIn _ (by omega);go_wp2_with (fail);go_roundw
       case rel=>exact⟨i+1,by go_num,by rw[LB.o.1];go_num,by omega,by omega,λj j1 j2=>by
        rcases zLg j i with h|h
        . exact H3.o j j1 h
        . obtain rfl:j=i:=by omega
          exact LB.o.2,trivial⟩
       case measure=>(simp[zI]<;>omega)
     rw[decide_eq_false hc,Bool.not_false] at m
     have e:=HK.o.2.2.1.2 (.inr (.inl λh=>hc (h i h1 hi)));have HE:=zh e;clear e;go_wp2_with (fail);refine bodyPost_ret (v:=.tuple #[.int .i64 (-1),.int .i64 1]) (by simp[results,Tryz.results134,go_sem]) rfl ?_;exact⟨by rw[HE.o];rfl,rfl⟩
   have Eo:i=k:=by omega
   subst Eo;have z6:¬ (i:Int)<(i:Int):=by omega
   have yp:=cN_lt s i (by omega);have e0:=HK.o.2.1;rw[e0] at yp ⊢;clear e0;have hs:=sB (c:Int) (by omega) wr;obtain⟨b,Q1⟩:∃ b,fT (c:Int)=b:=⟨_,rfl⟩;rw[Q1] at hs;have HS:=zh hs;have HB:=zh Q1;clear hs Q1;by_cases Hf:c<rP i
   . have e:=HK.o.2.2.1.2 (.inr (.inr (.inl Hf)))
     have HE:=zh e;clear e;have z7:(c:Int)<((rP i:Nat):Int):=by omega
     go_wp2_with (first|(go_at_call 160;refine HS.o.mono ?_;rintro e9 w9 ⟨rfl,rfl⟩));refine bodyPost_ret (v:=.tuple #[.int .i64 (-1),.int .i64 1]) (by simp[results,Tryz.results134,go_sem]) rfl ?_;exact⟨by rw[HE.o];rfl,rfl⟩
   have z7:¬ (c:Int)<((rP i:Nat):Int):=by omega
   cases b with
   | false=>
    have e:=HK.o.2.2.1.2 (.inr (.inr (.inr HB.o)));have HE:=zh e;clear e;go_wp2_with (first|(go_at_call 160;refine HS.o.mono ?_;rintro e9 w9 ⟨rfl,rfl⟩));refine bodyPost_ret (v:=.tuple #[.int .i64 (-1),.int .i64 1]) (by simp[results,Tryz.results134,go_sem]) rfl ?_;exact⟨by rw[HE.o];rfl,rfl⟩
   | true=>
    have e:=HK.o.2.2.1.1 (by omega) H3.o (by omega) HB.o;have HE:=zh e;clear e;go_wp2_with (first|(go_at_call 160;refine HS.o.mono ?_;rintro e9 w9 ⟨rfl,rfl⟩));refine bodyPost_ret (v:=.tuple #[.int .i64 c,.int .i64 i]) (by simp[results,Tryz.results134,go_sem]) rfl ?_;exact⟨by rw[HE.o],rfl⟩
