/- Part of a proof. No condition. -/
import Derived.Test.YtmfnmkccbldfpaaGreatDoorS00
import Derived.Test.YtmfnmkccbldfpaaGreatDoorS01
import Derived.Test.YtmfnmkccbldfpaaGreatDoorS02
set_option linter.unusedVariables false
set_option linter.unusedSimpArgs false
set_option maxRecDepth 100000
set_option maxHeartbeats 4000000
namespace Go.Proofs.YtmfnmkccbldfpaaGreatDoor
open Go.RowKit Go.Lib Tryz
theorem zzDn {p:Prop} (h:p:=by exact HP.o.drewN _):p:=h
theorem zzCp {p:Prop} (h:p:=by grind [cD]):p:=h
theorem zzCc {p:Prop} (h:p:=by
 clear hc;go_in;go_wp2;go_quiet (fail);go_wp2;go_ret;exact⟨rfl,H.o.drewN nq,aM (eN w _) nq⟩):p:=h
theorem zzBe {p:Prop} (h:p:=by
 go_wp2;go_quiet (fail);go_wp2_with (first|(go_at_call 99;refine (eK 2 k _).mono ?_;rintro e w' ⟨rfl,rfl⟩));refine⟨rfl,?_⟩;rw[e7.o];exact⟨rfl,aM HG.o _⟩):p:=h
theorem zzAZ {p q:Prop} (k:q) (h:q->p:=by intro zz;refine wp_loop_rounds 1 ?_;rw[rounds_succ];exact zz):p:=h k
theorem zzAW {p:Prop} (h:p:=by
 go_wp2;go_quiet (fail);go_wp2;go_ret;exact⟨rfl,aK ((zBr _ w).alloc bR _) _⟩):p:=h
theorem zzAR {p:Prop} (h:p:=by
 go_wp2;go_quiet (fail);go_wp2;go_quiet (fail);go_wp2_with (first|(go_at_call 99;refine (eK 2 k _).mono ?_;rintro e w' ⟨rfl,rfl⟩));refine⟨rfl,?_⟩;rw[JM.o _ HL.o];exact⟨rfl,aM HG.o _⟩):p:=h
theorem zzAP {p:Prop} (h:p:=by
 rw[Jy] at hb;clear Jy;go_in;go_wp2_with (go_at_call 119;refine hT.mono ?_;rintro e w1 ⟨v,rfl,rfl,Qd,QU⟩;obtain⟨d0,d1,g1⟩:=Qd.cells;have Qk:=zh Qd;have Kv:=zh QU;clear Qd QU);go_quiet (fail);go_wp2;go_quiet (fail);go_wp2;go_ret;rw[HC.o];exact⟨_,rfl,rfl,(Qk.o.drewN _).inc Hf,(aM Kv.o _).set 1 _⟩):p:=h
theorem zzAI {p:Prop} (h:p:=by
 have HX:=zh (uF (k:=k) hj HD.o (by rw[HQ.o];exact dig_no zo));have hx:=HX.o;by_cases CR:j=0
 . rw[zP CR] at hx
   have O6:((q:Int)==(p:Int))=true:=by have:=HQ.o;simp;omega
   have Jb:=zh hx;clear hx;go_wp2;go_quiet (fail);go_wp2_with (go_at_call 158;refine (rG bf k _ (by exact xv)).mono ?_;rintro e w' ⟨rfl,rfl⟩);refine⟨rfl,?_⟩;rw[Jb.o];exact⟨rfl,aM HG.o nq⟩
 rw[zN CR,HV.o,HQ.o] at hx
 have O6:((q:Int)==(p:Int))=false:=by have:=HQ.o;simp;omega
 have Jb:=zh hx;clear hx;go_wp2;go_quiet (fail);go_wp2;go_ret;rw[Jb.o];exact⟨_,rfl,rfl,HP.o.drewN nq,aM HG.o nq⟩):p:=h
theorem zzAE {p:Prop} (h:p:=by
 by_cases hn:n=6
 . have V9:decide ((6:Int)<(n:Int)+1)=true:=zx
   have hL:=HL.o;rw[zP hn] at hL;have jz:=zh hL;clear hL hn;go_wp2;go_quiet (fail);go_wp2;go_quiet (fail);go_wp2_with (first|(go_at_call 99;refine (eK 2 k _).mono ?_;rintro e w' ⟨rfl,rfl⟩));refine⟨rfl,?_⟩;rw[JM.o _ jz.o];exact⟨rfl,aM HG.o _⟩
 have V9:decide ((6:Int)<(n:Int)+1)=false:=zx
 have hL:=HL.o;rw[zN hn] at hL;have jz:=zh hL;have G4:n<=5:=zo
 clear hL hn;go_wp2;go_quiet (fail);go_wp2;go_quiet (fail);go_wp2;go_roundg g
 case rel=>
  have e2:p+1+(n+1)=q+1:=by have:=HQ.o;omega
  refine⟨16*a+d,n+1,g,rfl,by have:=Wm.o;have:=Tl.o;omega,zo,?_,rfl,?_,?_,?_,(aM HG.o _).set 1 _⟩
  . rw[KD.o]
    exact congrArg (Value.int IntKind.i32) (zb7 a d Eu Dd)
  . have:=HA.o
    omega
  . rw[jz.o,e2]
  . rw[e2];exact (HP.o.drewN _).inc Hf
 case measure=>have:=Fl.o;have:=Tl.o;omega):p:=h
variable {w w':ω} {bp p:Nat} {s:η}
abbrev wrongV (e k:Nat):Value:=Δ 223 (.agg #[ι e,ι k])
abbrev zdR (e k:Nat):Ending:=.panicked [{v:=wrongV e k,recovered:=false}]
theorem eK (e k:Nat) (w:ω):Γ 99 #[ι e,ι k] w λr w'=>r=zdR e k/\w=w':=by
 go_in;go_wp2;exact⟨rfl,rfl,rfl⟩
def PAt (bp:Nat) (s:η) (p:Nat) (w:ω):Prop:=w.h bp #[γ s,ι p] 226
abbrev jV:Nat:=4
abbrev oK (w:ω):Prop:=Lib.Utf8Tabs 0 1 w
theorem zbz (hT:oK w) (h:∀ a:Addr,a.block<jV->w'.cell? a=w.cell? a):oK w':=by
 obtain⟨h1,h2⟩:=hT;refine⟨λc hc=> ?_,λi hi=>⟨?_,?_⟩⟩
 all_goals grind
theorem fD {B:Nat} (hT:oK w) (hb:Below B w w') (hg:jV<=B):oK w':=
 zbz hT λa ha=>hb.cell (p:=a) zo
theorem xV (w:ω) (s:η):(w.drew.iter s 0).heap[w.heap.size]?=some (.stringIter s 0)/\w.u (w.drew.iter s 0):=
 ⟨World.iter_heap w.drew s 0,((zBr _ w).drew).alloc bR _⟩
theorem PAt.cells (hp:PAt bp s p w):w.v bp 0 (γ s)/\w.i bp 1 p:=by
 have:=bF w bp 0 _ _ _ hp;have:=bF w bp 1 _ _ _ hp
 grind
theorem peek_end (bp:Nat) (s:η) (p:Nat) (w:ω) (hp:PAt bp s p w) (hs:s.size<=1000) (he:p=s.size):
 Γ 118 #[π bp] w λr w'=>r=ρ (ξ (-1))/\w.u w':=by
 obtain⟨c0,c1⟩:=hp.cells;clear hp;subst he;obtain⟨hk,hb⟩:=xV w ByteArray.empty;have:=run_next_end_at (P:=prog) (w.drew.iter ByteArray.empty 0) w.t ByteArray.empty 0 0 hk zd;clear hk;go_in;go_wp2
 go_region
 go_wp2;generalize w.drew.iter ByteArray.empty 0=wx at*;refine zzAZ ?_;go_wp2;go_ret;simp_all
theorem zgw (s:η) (p i:Nat):(ε s p s.size).get! i=s.get! (p+i):=by
 simp only[ByteArray.get!];rw[getElem!_def,getElem!_def];have e:(ε s p s.size).data[i]?=s.data[p+i]?:=by
  rw[ByteArray.data_extract,Array.getElem?_extract];have:s.data.size=s.size:=rfl;split
  . rfl
  grind
 rw[e]
theorem nM (s:η) (p:Nat):δ (ε s p s.size) 0=δ s p:=by
 grind [decode_at,zgw,ByteArray.size_extract]
theorem peek_ok (bp:Nat) (s:η) (p:Nat) (w:ω) (hp:PAt bp s p w) (hs:s.size<=1000) (he:p<s.size) (hd:(δ s p).1≠65533):
 Γ 118 #[π bp] w λr w'=>r=ρ (ξ (δ s p).1)/\w.u w':=by
 obtain⟨c0,c1⟩:=hp.cells;clear hp;obtain⟨hk,hb⟩:=xV w (ε s p s.size);have hn:=run_next_any_at (P:=prog) (w.drew.iter (ε s p s.size) 0) w.t (ε s p s.size) 0 0 hk zx;have Hm:=below_iterAt hb bR (ε s p s.size) (0+(δ (ε s p s.size) 0).2);rw[nM,Nat.zero_add] at hn Hm;clear hk hb;have:(((δ s p).1:Int)==65533)=false:=zx
 go_in;go_wp2
 go_region
 go_wp2;generalize w.drew.iter (ε s p s.size) 0=wx at*;refine zzAZ ?_;go_wp2;go_ret;simp_all
theorem peek_fffd (bp:Nat) (s:η) (p:Nat) (w:ω) (hp:PAt bp s p w) (hT:oK w) (Vp:jV<=w.t) (hs:s.size<=1000) (he:p<s.size) (hd:(δ s p).1=65533) (Pe:(δ s p).2≠1):
 Γ 118 #[π bp] w λr w'=>r=ρ (ξ 65533)/\w.u w':=by
 obtain⟨c0,c1⟩:=hp.cells;have Hf:=aA hp;clear hp;obtain⟨hk,hb⟩:=xV w (ε s p s.size);have hn:=run_next_any_at (P:=prog) (w.drew.iter (ε s p s.size) 0) w.t (ε s p s.size) 0 0 hk zx;have Hm:=below_iterAt hb bR (ε s p s.size) (0+(δ (ε s p s.size) 0).2);rw[nM,Nat.zero_add] at hn Hm;rw[hd] at hn;have:Lib.decodeGo (ε s p s.size)=(65533,(δ s p).2):=by
  unfold Lib.decodeGo;rw[zN zx,nM,<-hd]
 clear hk hb hd;have:(((δ s p).2:Int)==1)=false:=zx
 generalize K7:(δ s p).2=nn at*;clear K7 Pe;go_in;go_wp2
 go_region
 go_wp2;generalize w.drew.iter (ε s p s.size) 0=wx at*;have:=(Hm.cell (p:=bp.a) Hf).trans c0;have:=(Hm.cell (p:=(bp.p 1)) Hf).trans c1;have:=fD hT Hm Vp;clear c0 c1;refine zzAZ ?_;go_wp2;generalize wx.iterAt w.heap.size (ε s p s.size) nn=wy at*;go_region_with (go_at_call 131;refine (Tryz.utf8_DecodeRuneInString _ _ ‹_›).mono ?_;rintro e w' ⟨rfl,Hu⟩)
 all_goals go_wp2
 all_goals go_ret
 all_goals exact⟨rfl,Hm.drew.trans (Hu.mono Hm.size)⟩
theorem peek_ill (bp:Nat) (s:η) (p:Nat) (w:ω) (hp:PAt bp s p w) (hT:oK w) (Vp:jV<=w.t) (hs:s.size<=1000) (he:p<s.size) (hd:(δ s p).1=65533) (KU:(δ s p).2=1):
 Γ 118 #[π bp] w λr w'=>r=zdR 2 p/\w.u w':=by
 obtain⟨c0,c1⟩:=hp.cells;have Hf:=aA hp;clear hp;obtain⟨hk,hb⟩:=xV w (ε s p s.size);have hn:=run_next_any_at (P:=prog) (w.drew.iter (ε s p s.size) 0) w.t (ε s p s.size) 0 0 hk zx;have Hm:=below_iterAt hb bR (ε s p s.size) (0+(δ (ε s p s.size) 0).2);rw[nM,Nat.zero_add] at hn Hm;rw[hd] at hn;rw[KU] at hn Hm;have:Lib.decodeGo (ε s p s.size)=(65533,1):=by
  unfold Lib.decodeGo;rw[zN zx,nM,<-hd,<-KU]
 clear hk hb hd KU;go_in;go_wp2
 go_region
 go_wp2;generalize w.drew.iter (ε s p s.size) 0=wx at*;have:=(Hm.cell (p:=bp.a) Hf).trans c0;have d1:=(Hm.cell (p:=(bp.p 1)) Hf).trans c1;have:=fD hT Hm Vp;clear c0 c1;refine zzAZ ?_;go_wp2;have Du:bp<(wx.iterAt w.t (ε s p s.size) 1).t:=zLd Hf Hm.size;generalize wx.iterAt w.heap.size (ε s p s.size) 1=wy at*
 go_region_with (go_at_call 131;refine (Tryz.utf8_DecodeRuneInString _ _ ‹_›).mono ?_;rintro e w' ⟨rfl,Hu⟩;have:=(Hu.cell (p:=(bp.p 1)) Du).trans d1)
 all_goals (go_wp2_with (go_at_call 99;refine (eK 2 p _).mono ?_;rintro e w' ⟨rfl,rfl⟩))
 all_goals exact⟨rfl,rfl,Hm.drew.trans (Hu.mono Hm.size)⟩
theorem zbe (s:η) (p:Nat) (he:p<s.size) (h:¬ ((δ s p).1=65533/\(δ s p).2=1)):
 runeLen (δ s p).1=(δ s p).2/\p+(δ s p).2<=s.size/\1<=(δ s p).2/\(δ s p).2<=4:=by
 grind [iL,runeLen]
structure PS (bp:Nat) (s:η) (p:Nat) (w:ω):Prop where
 aQ:PAt bp s p w
 tabs:oK w
 glob:jV<=bp
 size:s.size<=1000
 le:p<=s.size
theorem PS.lt (h:PS bp s p w):bp<w.t:=aA h.aQ
theorem PS.next {q:Nat} (h:PS bp s p w) (hg:w.g w' bp) (ha:PAt bp s q w') (hq:q<=s.size):PS bp s q w':=
 ⟨ha,zbz h.tabs λa hx=>World.cell?_of_block (w:=w) (hg.block a.block (by have:=h.lt;have:=h.glob;omega) (by simp;have:=h.glob;omega)),h.glob,h.size,hq⟩
theorem PS.below (h:PS bp s p w) (hb:w.u w'):PS bp s p w':=
 h.next (aH hb _) ((hb.block bp h.lt).trans h.aQ) h.le
theorem zaY {c:Int} (h:cQ s p=.ok c):(p=s.size\/s.size<p)/\c= -1\/p<s.size/\¬ ((δ s p).1=65533/\(δ s p).2=1)/\c=(δ s p).1:=by
 grind [cQ]
theorem jJ (bp:Nat) (s:η) (p:Nat) (w:ω) (c:Int) (h:PS bp s p w) (hc:cQ s p=.ok c):
 Γ 118 #[π bp] w λr w'=>r=ρ (ξ c)/\w.u w':=by
 have hg:jV<=w.t:=by have:=h.lt;have:=h.glob;omega
 rcases zaY hc with⟨h1,rfl⟩|⟨h1,h2,rfl⟩
 . exact peek_end bp s p w h.aQ h.size (by have:=h.le;omega)
 by_cases h3:(δ s p).1=65533
 . refine (peek_fffd bp s p w h.aQ h.tabs hg h.size h1 h3 (λh4=>h2 ⟨h3,h4⟩)).mono λr w' hr=> ?_
   grind
 exact peek_ok bp s p w h.aQ h.size h1 h3
theorem mZ (bp:Nat) (s:η) (p:Nat) (w:ω) (e:mP) (h:PS bp s p w) (hc:cQ s p=.error e):
 Γ 118 #[π bp] w λr w'=>r=zdR e.1 e.2/\w.u w':=by
 have hg:jV<=w.t:=by have:=h.lt;have:=h.glob;omega
 unfold cQ at hc;split at hc
 . split at hc
   . rename_i h1 h2
     cases hc;exact peek_ill bp s p w h.aQ h.tabs hg h.size h1 h2.1 h2.2
   cases hc
 cases hc
end Go.Proofs.YtmfnmkccbldfpaaGreatDoor
namespace Go.Proofs.YtmfnmkccbldfpaaGreatDoor
open Go.RowKit Tryz
structure Hd3 (w:ω) (bb off n b0 b1 b2:Nat):Prop where
 c0:w.v bb off (.int .u8 b0)
 c1:1<n->w.v bb (off+1) (.int .u8 b1)
 c2:2<n->w.v bb (off+2) (.int .u8 b2)
 l0:b0<256
 l1:b1<256
 l2:b2<256
theorem aK {B:Nat} {a b:ω} (h:Below B a b) (n:Nat):Below B a (b.drewN n):=⟨h.os,h.tape,h.output,h.size,h.block⟩
theorem zgD {w:ω} {a:Addr} {v:Value} (h:w.cell? a=some v):a.block<w.t:=by
 grind [World.cell?]
theorem zdr (a:Option Addr) (cap:Nat) (w:ω):Γ 45 #[τ a 0 cap] w λe w'=>e=ρ (φ false)/\w.u w':=by
 go_in;go_wp2;go_ret;simp_all[zBr]
theorem zee (bb off n cap b0 b1 b2:Nat) (w:ω) (hT:oK w) (hb:Hd3 w bb off n b0 b1 b2) (hn:0<n) (Hv:n<1000000):
 Γ 45 #[τ (some (bb.p off)) n cap] w λe w'=>e=ρ (φ (fG n b0 b1 b2))/\w.u w':=by
 obtain⟨x,hx⟩:=zE (Lib.firstT b0);have:w.v 0 b0 (.int .u8 x):=by rw[hx];exact hT.1 b0 hb.l0
 have RI:x<128\/x=240\/x=241:=by
  rw[hx];rcases jF b0 hb.l0 with h|h|h|h|h|h|h|h|h|h<;>omega
 have:bits .and .u8 (x:Int) 7=(x:Int)%8:=u8_and7 _ zo zo;have ib:=zp n
 have qg:((n:Int)==0)=false:=zx
 have Va:fG n b0 b1 b2=(decide (x%8<=n)||((decide (1<n)&&(decide (b1<Lib.accLo (x / 16))||decide (Lib.accHi (x / 16)<b1)))||(decide (2<n)&&(decide (b2<128)||decide (191<b2))))):=by
  unfold fG;rw[<-hx];simp[hn]
 have HF:=zh Va;have:(b0:Int)<256:=by have:=hb.l0;omega
 have c0:=hb.c0;have HB:=zh hb;have HT:=zh hT;have HX:=zh hx;clear hb hT hx Va;generalize fG n b0 b1 b2=FN at*;by_cases Br:x%8<=n
 . have hz:(x:Int)%8<=(n:Int):=zo
   have JY:FN=true:=by rw[HF.o];simp[Br]
   subst JY;go_in;go_wp2;go_ret;simp_all[zBr]
 have hz:¬ (x:Int)%8<=(n:Int):=zo
 obtain⟨i,hi⟩:=zE (x / 16);have:(x:Int) / 16=(i:Int):=zo
 have YP:i<16:=zo
 have:(i:Int)<16:=zo
 obtain⟨a0,a1⟩:=HT.o.2 i YP;obtain⟨lo,VO⟩:=zE (Lib.accLo i);obtain⟨hh,eo⟩:=zE (Lib.accHi i);rw[<-VO,Nat.mul_comm] at a0;rw[<-eo,Nat.mul_comm] at a1;have F6:FN=((decide (1<n)&&(decide (b1<lo)||decide (hh<b1)))||(decide (2<n)&&(decide (b2<128)||decide (191<b2)))):=by
  rw[HF.o,<-hi,<-VO,<-eo];simp[Br]
 have BS:=zh F6;have x6:=HB.o;have:n<=3:=by
  rcases jF b0 x6.l0 with h|h|h|h|h|h|h|h|h|h<;>(have:=HX.o;omega)
 have c1:=x6.c1;have c2:=x6.c2;have:b1<256/\b2<256:=⟨x6.l1,x6.l2⟩;have:=zgD c0;clear hi VO eo F6 x6 RI Br;have ON:n=1\/n=2\/n=3:=zo
 rcases ON with rfl|rfl|rfl
 . have ax:¬ (x:Int)%8<=1:=zo
   clear hz qg ib hn Hv;go_in;go_wp2;go_quiet (fail);go_wp2;go_ret;have JY:FN=false:=by rw[BS.o];simp
   exact⟨congrArg (λb=>Ending.returned (Value.bool b)) JY.symm,aK (Ξ w _) _⟩
 . have ax:¬ (x:Int)%8<=2:=zo
   have c1':=c1 zo;clear hz qg ib hn Hv c1 c2;by_cases q1:b1<lo
   . have d1:decide ((b1:Int)<(lo:Int))=true:=zx
     have e1:decide (b1<lo)=true:=zx
     have z1:=zt b1 lo
     have JY:FN=true:=by rw[BS.o];simp[q1]
     subst JY;clear q1;go_in;exact zzAW
   have d1:decide ((b1:Int)<(lo:Int))=false:=zx
   have e1:decide (b1<lo)=false:=zx
   by_cases q2:hh<b1
   . have d2:decide ((hh:Int)<(b1:Int))=true:=zx
     have e2:decide (hh<b1)=true:=zx
     have z2:=zt hh b1
     have JY:FN=true:=by rw[BS.o];simp[q2]
     subst JY;clear q1 q2;go_in;exact zzAW
   have d2:decide ((hh:Int)<(b1:Int))=false:=zx
   have e2:decide (hh<b1)=false:=zx
   have JY:FN=false:=by rw[BS.o];simp[q1,q2]
   subst JY;clear q1 q2;go_in;exact zzAW
 have ax:¬ (x:Int)%8<=3:=zo
 have c1':=c1 zo;have:=c2 zo;clear hz qg ib hn Hv c1 c2;by_cases q1:b1<lo
 . have d1:decide ((b1:Int)<(lo:Int))=true:=zx
   have e1:decide (b1<lo)=true:=zx
   have z1:=zt b1 lo
   have JY:FN=true:=by rw[BS.o];simp[q1]
   subst JY;clear q1;go_in;exact zzAW
 have d1:decide ((b1:Int)<(lo:Int))=false:=zx
 have e1:decide (b1<lo)=false:=zx
 by_cases q2:hh<b1
 . have d2:decide ((hh:Int)<(b1:Int))=true:=zx
   have e2:decide (hh<b1)=true:=zx
   have z2:=zt hh b1
   have JY:FN=true:=by rw[BS.o];simp[q2]
   subst JY;clear q1 q2;go_in;exact zzAW
 have d2:decide ((hh:Int)<(b1:Int))=false:=zx
 have e2:decide (hh<b1)=false:=zx
 by_cases q3:b2<128
 . have d3:decide ((b2:Int)<128)=true:=zx
   have:(b2:Int)<128:=zo
   have JY:FN=true:=by rw[BS.o];simp[q3]
   subst JY;clear q1 q2 q3;go_in;exact zzAW
 have d3:decide ((b2:Int)<128)=false:=zx
 by_cases q4:191<b2
 . have d4:decide ((191:Int)<(b2:Int))=true:=zx
   have:(191:Int)<(b2:Int):=zo
   have JY:FN=true:=by rw[BS.o];simp[q4]
   subst JY;clear q1 q2 q3 q4;go_in;exact zzAW
 have d4:decide ((191:Int)<(b2:Int))=false:=zx
 have JY:FN=false:=by rw[BS.o];simp[q1,q2,q3,q4]
 subst JY;clear q1 q2 q3 q4;go_in;exact zzAW
end Go.Proofs.YtmfnmkccbldfpaaGreatDoor
namespace Go.Proofs.YtmfnmkccbldfpaaGreatDoor
open Go.RowKit Go.Lib Tryz
theorem PAt.set {bp:Nat} {s:η} {p:Nat} {w:ω} (h:PAt bp s p w) (q:Nat):PAt bp s q (ς w (bp.p 1) (ι q)):=
 aB w bp 1 _ _ _ _ h
theorem bQ (w:ω) (bp o:Nat) (v:Value):w.grownBy (ς w (bp.p o) v) (some bp):=
 ⟨rfl,rfl,rfl,zs,λk _ hr=>Below.heap_setCell _ _ _ _ (λe=>hr (by rw[e]))⟩
theorem zdu {a b:ω} {row:Option Nat} (h:a.grownBy b row):a.grownBy b.drew row:=⟨h.os,h.tape,h.output,h.size,h.block⟩
theorem take_end (bp:Nat) (s:η) (p:Nat) (w:ω) (h:PS bp s p w) (hc:qW s p=.ok (-1,p)) (hk:cQ s p=.ok (-1)):
 Γ 119 #[π bp] w λr w'=>r=ρ (ξ (-1))/\PS bp s p w'/\w.g w' bp:=by
 have hP:=jJ bp s p w _ h hk;have H:=zh h;clear h hc hk;go_in;go_wp2_with (go_at_call 118;refine hP.mono ?_;rintro e w' ⟨rfl,hb⟩);go_ret;exact⟨rfl,H.o.below hb,aH hb _⟩
theorem take_some (bp:Nat) (s:η) (p:Nat) (w:ω) (c:Int) (n:Nat) (h:PS bp s p w) (hk:cQ s p=.ok c) (Yg:0<=c) (hn:runeLen c=n) (hn4:n<=4) (CV:p+n<=s.size):
 Γ 119 #[π bp] w λr w'=>r=ρ (ξ c)/\PS bp s (p+n) w'/\w.g w' bp:=by
 have hP:=jJ bp s p w _ h hk;have hL:=λw=>zg0 c w;rw[hn] at hL;have H:=zh h;have:=h.size;have:(p:Int)<=1000:=zo
 have:(c != -1)=true:=zx
 clear h hn hk;go_in;go_wp2_with (go_at_call 118;refine hP.mono ?_;rintro e w' ⟨rfl,hb⟩);have h1:=H.o.below hb;have H1:=zh h1;obtain⟨c0,c1⟩:=h1.aQ.cells;have:=bN w' bp 1 _ _ h1.aQ;clear h1;have:IntKind.i64.wrap ((p:Int)+(n:Int))=((p+n:Nat):Int):=by rw[lM];omega
 go_region_with (go_at_call 110;refine (hL _).mono ?_;rintro e w2 ⟨rfl,rfl⟩)
 all_goals go_wp2
 all_goals go_ret
 all_goals (
  have h2:PS bp s (p+n) (w'.setCell (bp.p 1) (ι ((p+n:Nat):Int))).drew:=H1.o.next (zdu (bQ w' bp 1 _)) (H1.o.aQ.set (p+n)) CV;exact⟨rfl,h2,aC (aH hb _) (zdu (bQ w' bp 1 _))⟩)
theorem zb3 {s:η} {p:Nat} {c:Int} {q:Nat} (h:qW s p=.ok (c,q)):cQ s p=.ok c/\q=if c= -1 then p else p+(δ s p).2:=by
 grind [qW]
theorem nG (bp:Nat) (s:η) (p:Nat) (w:ω) (c:Int) (q:Nat) (h:PS bp s p w) (hc:qW s p=.ok (c,q)):
 Γ 119 #[π bp] w λr w'=>r=ρ (ξ c)/\PS bp s q w'/\w.g w' bp:=by
 obtain⟨hk,hq⟩:=zb3 hc
 rcases zaY hk with⟨h1,rfl⟩|⟨h1,h2,rfl⟩
 . rw[zP rfl] at hq;subst hq
   exact take_end bp s q w h hc hk
 rw[zN zo] at hq;subst hq
 obtain⟨l1,l2,l3,l4⟩:=zbe s p h1 h2;exact take_some bp s p w _ _ h hk zo l1 l4 l2
theorem take_err (bp:Nat) (s:η) (p:Nat) (w:ω) (e:mP) (h:PS bp s p w) (hc:qW s p=.error e):
 Γ 119 #[π bp] w λr w'=>r=zdR e.1 e.2/\w.u w':=by
 have hk:cQ s p=.error e:=by
  unfold qW at hc;split at hc
  . grind
  cases hc
 have hP:=mZ bp s p w _ h hk;clear h hc hk;go_in;go_wp2_with (go_at_call 118;refine hP.mono ?_;rintro e w' ⟨rfl,hb⟩);exact⟨rfl,rfl,hb⟩
end Go.Proofs.YtmfnmkccbldfpaaGreatDoor
namespace Go.Proofs.YtmfnmkccbldfpaaGreatDoor
open Go.RowKit Go.Lib Tryz
variable {bp p:Nat} {s:η} {w:ω}
theorem fX (s:η) (p:Nat) (h:p<s.size):((s[p]'h).toNat:Int)=bL s p:=by
 have e:s.get! p=s[p]'h:=by
  simp[ByteArray.get!,getElem!_pos,h];rfl
 unfold bL;rw[e]
theorem PS.inc (h:PS bp s p w) (hq:p+1<=s.size):PS bp s (p+1) (ς w (bp.p 1) (ι ((p:Int)+1))):=by
 have e:((p:Int)+1)=((p+1:Nat):Int):=zo
 rw[e];exact h.next (bQ w bp 1 _) (h.aQ.set (p+1)) hq
theorem PS.drewN (h:PS bp s p w) (n:Nat):PS bp s p (w.drewN n):=
 h.next ⟨rfl,rfl,rfl,bR,λ_ _ _=>rfl⟩ h.aQ h.le
theorem aM {a b:ω} {row:Option Nat} (h:a.grownBy b row) (n:Nat):a.grownBy (b.drewN n) row:=⟨h.os,h.tape,h.output,h.size,h.block⟩
end Go.Proofs.YtmfnmkccbldfpaaGreatDoor
namespace Go.World
theorem grownBy.set {bp:Nat} {a b:World} (h:a.grownBy b (some bp)) (o:Nat) (v:Value):a.grownBy (b.setCell ⟨bp,o,none⟩ v) (some bp):=Go.Proofs.YtmfnmkccbldfpaaGreatDoor.aC h (Go.Proofs.YtmfnmkccbldfpaaGreatDoor.bQ b bp o v)
end Go.World
namespace Go.Proofs.YtmfnmkccbldfpaaGreatDoor
open Go.RowKit Go.Lib Tryz
variable {bp p:Nat} {s:η} {w:ω}
theorem zeL (bp:Nat) (s:η) (p c:Nat) (w:ω) (h:PS bp s p w) (hp:p<s.size) (hc:bL s p=c):
 Γ 160 #[π bp,.int .u8 c] w λr w'=>r=ρ (φ true)/\PS bp s (p+1) w'/\w.g w' bp:=by
 obtain⟨c0,c1⟩:=h.aQ.cells;have:=bN w bp 1 _ _ h.aQ;have H:=zh h;have:=h.size;have hb:=fX s p hp;rw[hc] at hb;have:=zt p s.size
 clear h hc;have:=mF p;go_in;go_wp2;go_quiet (fail);go_wp2;go_ret;exact⟨rfl,(H.o.drewN nq).inc hp,(aM (eN w (some bp)) nq).set 1 _⟩
theorem sign_no (bp:Nat) (s:η) (p c:Nat) (w:ω) (h:PS bp s p w) (hc:p<s.size->bL s p≠c):
 Γ 160 #[π bp,.int .u8 c] w λr w'=>r=ρ (φ false)/\PS bp s p w'/\w.g w' bp:=by
 obtain⟨c0,c1⟩:=h.aQ.cells;have H:=zh h;clear h;by_cases hp:p<s.size
 . have:=fX s p hp
   have:((bL s p:Int)==(c:Int))=false:=by have:=hc hp;simp;omega
   have:=zt p s.size
   exact zzCc
 have:decide ((p:Int)<(s.size:Int))=false:=zx
 exact zzCc
theorem xU {c:Nat} (h:uZ s p c=true):p<s.size/\bL s p=c:=by
 unfold uZ at h;grind
theorem isB_no {c:Nat} (h:uZ s p c=false):p<s.size->bL s p≠c:=by
 unfold uZ at h;grind
theorem zeK (bp:Nat) (s:η) (p c:Nat) (w:ω) (h:PS bp s p w):
 Γ 160 #[π bp,.int .u8 c] w λr w'=>r=ρ (φ (uZ s p c))/\PS bp s (if uZ s p c then p+1 else p) w'/\w.g w' bp:=by
 cases hx:uZ s p c with
 | true=>exact zeL bp s p c w h (xU hx).1 (xU hx).2
 | false=>exact sign_no bp s p c w h (isB_no hx)
def Out {α:Type} (bp:Nat) (s:η) (w:ω) (V:α->Value->World->Prop) (x:Except mP (α×Nat)) (r:Ending) (w':ω):Prop:=
 match x with
 | .ok (a,q)=>∃ v,r=ρ v/\V a v w'/\PS bp s q w'/\w.g w' bp
 | .error e=>r=zdR e.1 e.2/\w.g w' bp
theorem rG (bf k:Nat) (w:ω) (hf:w.i bf 0 k):
 Γ 158 #[π bf] w λr w'=>r=zdR 4 k/\w=w':=by
 go_in;go_wp2_with (go_at_call 99;refine (eK 4 k _).mono ?_;rintro e w' ⟨rfl,rfl⟩);exact⟨rfl,rfl,rfl⟩
def valN (s:η) (p:Nat):Nat->Nat
 | 0=>0
 | 1=>bL s p-48
 | _=>10*(bL s p-48)+(bL s (p+1)-48)
theorem zgs (h:dig s p=true):p<s.size/\48<=bL s p/\bL s p<=57:=by
 unfold dig at h;grind
theorem dig_of (h1:p<s.size) (h2:48<=bL s p) (h3:bL s p<=57):dig s p=true:=by
 unfold dig;grind
theorem dig_no (h:¬ (p<s.size/\48<=bL s p/\bL s p<=57)):dig s p=false:=by
 unfold dig;grind
theorem uF {k j:Nat} (hj:j<=2) (hd:∀ i,i<j->dig s (p+i)=true) (hn:dig s (p+j)=false):
 eV s p k=if j=0 then .error (4,k) else .ok (valN s p j,p+j):=by
 unfold eV
 rcases (by omega:j=0\/j=1\/j=2) with rfl|rfl|rfl
 . grind
 . have h0:dig s p=true:=hd 0 zo
   rw[zP h0,zN zg,zN zd];rfl
 have h0:dig s p=true:=hd 0 zo
 have h1:dig s (p+1)=true:=hd 1 zo;rw[zP h0,zP h1,zN zg,zN zd];rfl
theorem zcA {k:Nat} (hd:∀ i,i<3->dig s (p+i)=true):eV s p k=.error (4,k):=by
 grind [eV]
theorem PS.cells (h:PS bp s p w):w.v bp 0 (γ s)/\w.i bp 1 p/\w.q bp 1:=
 ⟨h.aQ.cells.1,h.aQ.cells.2,bN w bp 1 _ _ h.aQ⟩
theorem valN_le (s:η) (p j:Nat):valN s p j<=10000:=by
 have:=eB s p;have:=eB s (p+1);unfold valN
 grind
theorem zf9 (s:η) (p j:Nat) (hj:j<=1):valN s p (j+1)=10*valN s p j+(bL s (p+j)-48):=by
 rcases (by omega:j=0\/j=1) with rfl|rfl
 . unfold valN;simp
 rfl
theorem yC (bp bf:Nat) (s:η) (p k:Nat) (w:ω) (h:PS bp s p w) (hf:w.i bf 0 k) (qg:bf≠bp):
 Calls prog 159 #[π bp,.func (.func 158) #[] #[π bf]] w
  (Out bp s w (λn v _=>v=ι (n:Nat)) (eV s p k)):=by
 obtain⟨c0,c1,f1⟩:=h.cells;have H:=zh h;have:=h.size;have:=h.le;clear h;go_in;go_wp2;go_quiet (fail);go_wp2;go_loopg [5] 3 (λg n wr=>∃ j:Nat,j+g=3/\j<=2/\n=ι (valN s p j)/\(∀ i,i<j->dig s (p+i)=true)/\PS bp s (p+j) wr/\w.g wr bp)
 case atStart=>exact⟨0,zo,zo,rfl,λi hi=>zo,H.o.drewN nq,aM (eN w _) nq⟩
 case round=>
  obtain⟨j,hjg,hj,rfl,hd,Qq,Qm⟩:=hrel;have:=valN_le s p j;generalize AB:p+j=q at*;have HQ:=zh AB;generalize hve:valN s p j=v at*;have HV:=zh hve;clear AB hve;obtain⟨d0,d1,g1⟩:=Qq.cells;have:=Qq.le;have HP:=zh Qq;have HD:=zh hd;have xv:wr.i bf 0 k:=Qm.cell hf (by simp;exact qg);have HG:=zh Qm;clear Qq hd Qm c0 c1 f1 hf;have:(p:Int)<=(q:Int):=by have:=HQ.o;omega
  by_cases Hf:q<s.size
  . have hz:=zt q s.size
    have:=fX s q Hf;have:=eB s q;by_cases h48:48<=bL s q
    . have ax:(48:Int)<=(bL s q:Int):=zo
      by_cases h57:bL s q<=57
      . have Kf:(bL s q:Int)<=57:=zo
        have:=mF q;have EA:dig s q=true:=dig_of Hf h48 h57;have Xv:∀ i,i<j+1->dig s (p+i)=true:=λi hi=>by
         by_cases e:i=j
         . rw[e,HQ.o];exact EA
         exact HD.o i zo
        have HD':=zh Xv;clear Xv EA;by_cases Pf:j=2
        . have Vs:decide ((2:Int)<(q:Int)+1-(p:Int))=true:=by have:=HQ.o;simp;omega
          have hx:eV s p k=.error (4,k):=zcA (λi hi=>HD'.o i zo);have HX:=zh hx;have As:∀ n,(ς (wr.drewN n) (bp.p 1) (ι ((q:Int)+1))).i bf 0 k:=λn=>(aM (eN wr (some bp)) n |>.set 1 _).cell xv (by simp;exact qg);have JP:=zh As;clear hx As;go_wp2;go_quiet (fail);go_wp2;go_quiet (fail);go_wp2_with (go_at_call 158;refine (rG bf k _ (by exact JP.o _)).mono ?_;rintro e w' ⟨rfl,rfl⟩);refine⟨rfl,?_⟩;rw[HX.o]
          exact⟨rfl,(aM HG.o _).set 1 _⟩
        have Vs:decide ((2:Int)<(q:Int)+1-(p:Int))=false:=by have:=HQ.o;simp;omega
        go_wp2;go_quiet (fail);go_wp2;go_quiet (fail);go_wp2;go_roundg (3-(j+1))
        case rel=>
         have:valN s p (j+1)=10*v+(bL s q-48):=by rw[zf9 s p j zo,HV.o,HQ.o]
         have e2:p+(j+1)=q+1:=by have:=HQ.o;omega
         refine⟨j+1,zo,zo,?_,HD'.o,?_,(aM HG.o _).set 1 _⟩
         . grind
         rw[e2]
         exact (HP.o.drewN _).inc zo
        omega
      have Kf:decide ((bL s q:Int)<=57)=false:=zx
      exact zzAI
    have ax:decide ((48:Int)<=(bL s q:Int))=false:=zx
    exact zzAI
  have hz:decide ((q:Int)<(s.size:Int))=false:=zx
  exact zzAI
end Go.Proofs.YtmfnmkccbldfpaaGreatDoor
namespace Go.Proofs.YtmfnmkccbldfpaaGreatDoor
open Go.RowKit Go.Lib Tryz
theorem take_any (bp:Nat) (s:η) (p:Nat) (w:ω) (h:PS bp s p w):
 Γ 119 #[π bp] w (Out bp s w (λc v _=>v=ξ c) (qW s p)):=by
 cases hx:qW s p with
 | ok cq=>exact (nG bp s p w cq.1 cq.2 h hx).mono λr w' ⟨h1,h2,h3⟩=>⟨_,h1,rfl,h2,h3⟩
 | error e=>exact (take_err bp s p w e h hx).mono λr w' ⟨h1,h2⟩=>⟨h1,aH h2 _⟩
theorem zb7 (a d:Nat) (ha:a<16777216) (hd:d<16):bits .or .i32 ((a:Int)*16) (d:Int)=((16*a+d:Nat):Int):=by
 rw[bits_join .i32 31 zd wraps_i32 4 _ _ zo zo zo zo zo zo];omega
theorem zhP:∀ x:Fin 256,bits .or .u8 ((x.val:Nat):Int) 32=((x.val|||32:Nat):Int):=by decide
theorem zfp:∀ x:Fin 256,pQ x.val=none->¬ (48<=x.val/\x.val<=57)/\¬ (97<=(x.val|||32)/\(x.val|||32)<=102):=by decide
theorem zfq:∀ x:Fin 256,∀ d∈pQ x.val,d<16/\((48<=x.val/\x.val<=57/\d+48=x.val)\/(¬ (48<=x.val/\x.val<=57)/\97<=(x.val|||32)/\(x.val|||32)<=102/\d+87=(x.val|||32))):=by decide
theorem zc8 (s:η) (k f p v d:Nat):dR s k (f+1) p v d=
 if decide (p<s.size)&& !decide (bL s p=125) then
  match pQ (bL s p) with
  | none=>.error (2,k)
  | some h=>if d=6 then .error (2,k) else dR s k f (p+1) (16*v+h) (d+1)
 else .ok (v,d,p):=rfl
theorem zfc (bp:Nat) (s:η) (p k:Nat) (w:ω) (h:PS bp s p w):
 Γ 163 #[π bp,ι k] w (Out bp s w (λc v _=>v=ξ c) (eY s p k)):=by
 have hS:=zeK bp s p 123 w h;have hs:=h.size;clear h;cases h1:uZ s p 123 with
 | false=>
  rw[h1] at hS;have HC:zH (eY s p k=.error (2,k)):=zh (by grind [eY]);go_in;go_wp2_with (first|(go_at_call 160;refine hS.mono ?_;rintro e w1 ⟨rfl,Qd,QU⟩)|(go_at_call 99;refine (eK 2 k _).mono ?_;rintro e w' ⟨rfl,rfl⟩));refine⟨rfl,?_⟩;rw[HC.o];exact⟨rfl,QU⟩
 | true=>
  rw[h1,zP rfl] at hS;have HE:∀ e,dR s k 8 (p+1) 0 0=.error e->eY s p k=.error e:=λe he=>by grind [eY]
  have HO:∀ v d q,dR s k 8 (p+1) 0 0=.ok (v,d,q)->eY s p k=if d≠0/\uZ s q 125=true/\((v<55296)\/(57343<v/\v<=1114111)) then .ok (v,q+1) else .error (2,k):=λv d q he=>by grind [eY]
  have JM:=zh HE;have ez:=zh HO;clear HE HO;clear h1;go_in;go_wp2_with (first|(go_at_call 160;refine hS.mono ?_;rintro e w1 ⟨rfl,Qd,QU⟩));have Qk:=zh Qd;have Kv:=zh QU;clear Qd QU hS;go_loopg [5,6] 8 (λgh v d wr=>∃ (a n f:Nat),f=gh/\n+f=8/\n<=6/\v=ξ a/\d=ι n/\a<16^n/\dR s k 8 (p+1) 0 0=dR s k f (p+1+n) a n/\PS bp s (p+1+n) wr/\w.g wr bp)
  case atStart=>exact⟨0,0,8,rfl,rfl,zo,rfl,rfl,zd,rfl,Qk.o,Kv.o⟩
  case round=>
   obtain⟨a,n,f,oe,SK,hn6,rfl,rfl,ha,Hy,Qq,Qm⟩:=hrel;have Fl:=zh oe;have Wm:=zh SK;clear oe;generalize AB:p+1+n=q at*;have HQ:=zh AB;clear AB;obtain⟨d0,d1,g1⟩:=Qq.cells;have qo:=Qq.le;have HP:=zh Qq;have HG:=zh Qm;have qh:=eB s q;have Eu:a<16777216:=zLd ha (Nat.pow_le_pow_right (n:=16) zd hn6);have HA:=zh ha;obtain⟨g,hg⟩:∃ g,f=g+1:=⟨f-1,zo⟩;rw[hg,zc8 s k g q a n] at Hy;have Tl:=zh hg;clear hg SK
   have HL:=zh Hy;clear Qq Qm ha Hy;have hqz:(q:Int)+1<=2000:=zo
   by_cases Hf:q<s.size
   . have hz:=zt q s.size
     have hb:=fX s q Hf;by_cases Ym:bL s q=125
     . have Ak:((bL s q:Int) != 125)=false:=zx
       have hB:uZ s q 125=true:=by unfold uZ;simp[Hf,Ym]
       have hL:=HL.o;rw[zN (by simp[Ym])] at hL;have jz:=zh hL;have Iy:=zh hB;clear hL Ym hB;have AW:=ez.o _ _ _ jz.o;clear Ak;by_cases Yn:n=0
       . have ib:((n:Int)==0)=true:=zx
         have Ak:((bL s q:Int) != 125)=false:=by have:=Iy.o;unfold uZ at this;simp at this;simp[this]
         rw[zN zo] at AW;have e7:=zh AW;clear AW Yn;exact zzBe
       have ib:((n:Int)==0)=false:=zx
       have PG:=(xU Iy.o).2;have Ak:((bL s q:Int) != 125)=false:=by simp[PG]
       cases hv:validRune a with
       | true=>
        have Rx:=λw=>zbb (a:Int) w;rw[hv] at Rx;rw[zP ⟨Yn,Iy.o,by unfold validRune at hv;simp at hv;omega⟩] at AW;have e7:=zh AW;have wJ:=zh PG;clear AW Yn hv PG;go_wp2;go_quiet (fail);go_wp2_with (first|(go_at_call 160;refine (zeL bp s q 125 _ zzDn Hf wJ.o).mono ?_;rintro e w2 ⟨rfl,yf,qk⟩)|(go_at_call 108;refine (Rx _).mono ?_;rintro e w' ⟨rfl,rfl⟩));go_ret;rw[e7.o];exact⟨_,rfl,rfl,yf,aC (aM HG.o _) qk⟩
       | false=>
        have Rx:=λw=>zbb (a:Int) w;rw[hv] at Rx;rw[zN (by rintro⟨_,_,h⟩;unfold validRune at hv;simp at hv;omega)] at AW;have e7:=zh AW;have wJ:=zh PG;clear AW Yn hv PG;go_wp2;go_quiet (fail);go_wp2_with (first|(go_at_call 160;refine (zeL bp s q 125 _ zzDn Hf wJ.o).mono ?_;rintro e w2 ⟨rfl,yf,qk⟩)|(go_at_call 108;refine (Rx _).mono ?_;rintro e w' ⟨rfl,rfl⟩)|(go_at_call 99;refine (eK 2 k _).mono ?_;rintro e w' ⟨rfl,rfl⟩));refine⟨rfl,?_⟩;rw[e7.o]
        exact⟨rfl,aC (aM HG.o _) qk⟩
     have Ak:((bL s q:Int) != 125)=true:=zx
     have hL:=HL.o;rw[zP (by simp[Hf,Ym])] at hL;clear HL Ym;cases hh:pQ (bL s q) with
     | none=>
      obtain⟨k1,k2⟩:=zfp ⟨bL s q,qh⟩ hh;have ho:=zhP ⟨bL s q,qh⟩;simp only at k1 k2 ho;rw[hh] at hL;have HL:=zh hL;clear hL hh;generalize XS:bL s q|||32=bo at*;generalize bL s q=b at*;clear XS;by_cases j1:48<=b
      . have kz1:(48:Int)<=(b:Int):=zo
        have kz2:¬ ((b:Int)<=57):=zo
        by_cases j2:97<=bo
        . have kz3:(97:Int)<=(bo:Int):=zo
          have kz4:¬ ((bo:Int)<=102):=zo
          exact zzAR
        have kz3:¬ ((97:Int)<=(bo:Int)):=zo
        exact zzAR
      . have kz1:¬ ((48:Int)<=(b:Int)):=zo
        by_cases j2:97<=bo
        . have kz3:(97:Int)<=(bo:Int):=zo
          have kz4:¬ ((bo:Int)<=102):=zo
          exact zzAR
        . have kz3:¬ ((97:Int)<=(bo:Int)):=zo
          exact zzAR
     | some d=>
      obtain⟨Dd,Xj⟩:=zfq ⟨bL s q,qh⟩ d hh;have ho:=zhP ⟨bL s q,qh⟩;simp only at Dd Xj ho;rw[hh] at hL
      replace hL:dR s k 8 (p+1) 0 0=if n=6 then .error (2,k) else dR s k g (q+1) (16*a+d) (n+1):=hL
      have HL:=zh hL;clear hL hh;generalize XS:bL s q|||32=bo at*;generalize bL s q=b at*;clear XS
      rcases Xj with⟨k1,k2,k3⟩|⟨k1,k2,k3,k4⟩
      . have kz1:(48:Int)<=(b:Int):=zo
        have kz2:(b:Int)<=57:=zo
        have KD:zH ((b:Int)-48=(d:Int)):=by show _=_;omega
        clear ho k3;exact zzAE
      have kz3:(97:Int)<=(bo:Int):=zo
      have kz4:(bo:Int)<=102:=zo
      have KD:zH ((bo:Int)-97+10=(d:Int)):=by show _=_;omega
      clear k4;by_cases j1:48<=b
      . have kz1:(48:Int)<=(b:Int):=zo
        have kz2:¬ ((b:Int)<=57):=zo
        exact zzAE
      have kz1:¬ ((48:Int)<=(b:Int)):=zo
      exact zzAE
   have hz:decide ((q:Int)<(s.size:Int))=false:=zx
   have hL:=HL.o;rw[zN zx] at hL;have jz:=zh hL;have AW:=ez.o _ _ _ jz.o;rw[zN (by rintro⟨_,h,_⟩;have:=(xU h).1;omega)] at AW;have e7:=zh AW;clear AW hL;by_cases Yn:n=0
   . have ib:((n:Int)==0)=true:=zx
     clear Yn;exact zzBe
   have ib:((n:Int)==0)=false:=zx
   clear Yn;go_wp2;go_quiet (fail);go_wp2_with (first|(go_at_call 160;refine (sign_no bp s q 125 _ zzDn (λh=>absurd h Hf)).mono ?_;rintro e w2 ⟨rfl,yf,qk⟩)|(go_at_call 99;refine (eK 2 k _).mono ?_;rintro e w' ⟨rfl,rfl⟩));refine⟨rfl,?_⟩;rw[e7.o];exact⟨rfl,aC (aM HG.o _) qk⟩
theorem edge_any (bp:Nat) (s:η) (p:Nat) (w:ω) (h:PS bp s p w)
 (Yd:∀ w,PS bp s p w->Γ 149 #[π bp] w (Out bp s w (λc v _=>v=ξ c) (cD s p))):
 Γ 161 #[π bp] w (Out bp s w (λc v _=>v=ξ c) (oX s p)):=by
 have H:=zh h;unfold oX;cases hx:cQ s p with
 | error e=>
  have hP:=mZ bp s p w _ h hx;clear h;go_in;go_wp2_with (first|(go_at_call 118;refine hP.mono ?_;rintro e w1 ⟨rfl,Hk⟩));exact⟨rfl,rfl,aH Hk _⟩
 | ok c=>
  have hP:=jJ bp s p w _ h hx;clear h hx;by_cases hc:c= -1\/c=91\/c=93\/c=45
  . simp only[zP hc]
    have HS:=zh Yd;clear Yd
    rcases hc with rfl|rfl|rfl|rfl
    all_goals
     go_in;go_wp2_with (first|(go_at_call 118;refine hP.mono ?_;rintro e w1 ⟨rfl,Hk⟩;have h1:=H.o.below Hk;obtain⟨d0,d1,f1⟩:=h1.cells;clear h1)|(go_at_call 99;refine (eK 2 p _).mono ?_;rintro e w' ⟨rfl,rfl⟩));exact⟨rfl,rfl,aH Hk _⟩
  simp only[zN hc]
  have:(c== -1)=false:=zx
  have:(c==91)=false:=zx
  have:(c==93)=false:=zx
  have:(c==45)=false:=zx
  have HS:=zh Yd;clear Yd hc;go_in;go_wp2_with (first|(go_at_call 118;refine hP.mono ?_;rintro e w1 ⟨rfl,Hk⟩));have h1:=H.o.below Hk;refine (HS.o _ h1).mono ?_;intro r w2 hr;cases Yl:cD s p with
  | error e=>
   rw[Yl] at hr;obtain⟨rfl,qk⟩:=hr;refine⟨rfl,?_⟩;rw[Yl];exact⟨rfl,aC (aH Hk _) qk⟩
  | ok cq=>
   rw[Yl] at hr;obtain⟨v,rfl,rfl,yf,qk⟩:=hr;go_wp2;go_ret;rw[Yl];exact⟨_,rfl,rfl,yf,aC (aH Hk _) qk⟩
end Go.Proofs.YtmfnmkccbldfpaaGreatDoor
namespace Go.Proofs.YtmfnmkccbldfpaaGreatDoor
open Go.RowKit Go.Lib Tryz
abbrev escS:η:=⟨#[40,41,91,93,123,125,124,42,43,63,46,92,45,94]⟩
theorem PS.iterAt {bp:Nat} {s:η} {p:Nat} {w:ω} (h:PS bp s p w) {B:Nat} (hB:bp<B) (t:η) (n:Nat):PS bp s p (w.iterAt B t n):=
 ⟨(iterAt_other w B bp t n zo).trans h.aQ,zbz h.tabs λa ha=>World.cell?_of_block (w:=w) (iterAt_other w B a.block t n (by have:=h.glob;omega)),h.glob,h.size,h.le⟩
theorem xR {a w:ω} {row:Option Nat} (h:a.grownBy w row) {B:Nat} (hB:a.t<=B) (t:η) (n:Nat):a.grownBy (w.iterAt B t n) row:=
 ⟨h.os,h.tape,h.output,by rw[iterAt_size];exact h.size,λk hk hr=>(iterAt_other w B k t n zo).trans (h.block k hk hr)⟩
theorem esc_dec:∀ k:Fin 14,∀ e,escs[k.val]?=some e->δ escS k.val=(e,1):=by decide
theorem zdL (bp:Nat) (s:η) (p:Nat) (w:ω) (h:PS bp s p w):
 Γ 149 #[π bp] w (Out bp s w (λc v _=>v=ξ c) (cD s p)):=by
 have hT:=take_any bp s p w h;obtain⟨c0,c1,f1⟩:=h.cells;have hs:=h.size;clear h;cases hx:qW s p with
 | error e=>
  rw[hx] at hT;have HC:zH (cD s p=.error e):=zh (by rw[cD,hx]);clear hx;go_in;go_wp2_with (go_at_call 119;refine hT.mono ?_;rintro e w1 ⟨rfl,QU⟩);refine⟨rfl,?_⟩;rw[HC.o];exact⟨rfl,QU⟩
 | ok cq=>
  obtain⟨c,q⟩:=cq;rw[hx] at hT;by_cases Al:c=92
  . subst Al
    have VR:q<=s.size:=by
     obtain⟨hk,hq⟩:=zb3 hx
     rcases zaY hk with⟨_,h⟩|⟨h1,h2,h3⟩
     . omega
     grind [zbe]
    by_cases Hf:q<s.size
    . have hz:=zt q s.size
      have AB:((q:Int)==(s.size:Int))=false:=zx
      have hw:=mF q;have hb:=fX s q Hf;have qh:=eB s q;by_cases b1:bL s q=110
      . have HC:zH (cD s p=.ok (10,q+1)):=zh zzCp
        clear hx;have Jy:(bL s q:Int)=110:=zo
        exact zzAP
      by_cases b2:bL s q=116
      . have HC:zH (cD s p=.ok (9,q+1)):=zh zzCp
        clear hx;have Jy:(bL s q:Int)=116:=zo
        exact zzAP
      by_cases b3:bL s q=114
      . have HC:zH (cD s p=.ok (13,q+1)):=zh zzCp
        clear hx;have Jy:(bL s q:Int)=114:=zo
        exact zzAP
      have n1:((bL s q:Int)==110)=false:=zx
      have n2:((bL s q:Int)==116)=false:=zx
      have n3:((bL s q:Int)==114)=false:=zx
      by_cases b4:bL s q=117
      . have HC:zH (cD s p=eY s (q+1) p):=zh zzCp
        clear hx b1 b2 b3;have Jy:(bL s q:Int)=117:=zo
        rw[Jy] at hb n1 n2 n3;clear Jy b4 n1 n2 n3;go_in;go_wp2_with (go_at_call 119;refine hT.mono ?_;rintro e w1 ⟨v,rfl,rfl,Qd,QU⟩;obtain⟨d0,d1,g1⟩:=Qd.cells;have Qk:=zh Qd;have Kv:=zh QU;clear Qd QU);go_quiet (fail);go_wp2;go_quiet (fail);cases Ex:eY s (q+1) p with
        | error e=>
         have Y8:zH (cD s p=.error e):=zh (HC.o.trans Ex);clear Ex;go_wp2_with (go_at_call 163;refine (zfc bp s (q+1) p _ (by exact (Qk.o.drewN _).inc Hf)).mono ?_;intro r w2 hr;rw[HC.o.symm.trans Y8.o] at hr;obtain⟨rfl,qk⟩:=hr);refine⟨rfl,?_⟩;rw[Y8.o];exact⟨rfl,aC ((aM Kv.o _).set 1 _) qk⟩
        | ok cq2=>
         have Y8:zH (cD s p=.ok cq2):=zh (HC.o.trans Ex);clear Ex;go_wp2_with (go_at_call 163;refine (zfc bp s (q+1) p _ (by exact (Qk.o.drewN _).inc Hf)).mono ?_;intro r w2 hr;rw[HC.o.symm.trans Y8.o] at hr;obtain⟨v,rfl,rfl,yf,qk⟩:=hr);go_ret;rw[Y8.o];exact⟨_,rfl,rfl,yf,aC ((aM Kv.o _).set 1 _) qk⟩
      have n4:((bL s q:Int)==117)=false:=zx
      have HC:zH (cD s p=if escs.contains (bL s q) then .ok (bL s q,q+1) else .error (2,p)):=zh zzCp;clear hx b1 b2 b3 b4;go_in;go_wp2_with (go_at_call 119;refine hT.mono ?_;rintro e w1 ⟨v,rfl,rfl,Qd,QU⟩;obtain⟨d0,d1,g1⟩:=Qd.cells;have Qk:=zh Qd;have Kv:=zh QU;clear Qd QU);have EG:∀ n,((ς (w1.drewN n) (bp.p 1) (ι ((q:Int)+1))).iter escS 0).heap[w1.heap.size]?=some (.stringIter escS 0):=λn=>by
       have e:=World.iter_heap (ς (w1.drewN n) (bp.p 1) (ι ((q:Int)+1))) escS 0;simp_all
      have HI:=zh EG;have YK:bp<w1.t:=Qk.o.lt;have hww:w.heap.size<=w1.heap.size:=Kv.o.size;clear EG;go_quiet (fail);go_wp2;go_quiet (fail);go_wp2;generalize bL s q=b at*;have Jy:IntKind.i32.wrap (b:Int)=b:=IntWalk.i32_in _ zo;go_loopg [7] 14 (λgh c wr=>∃ k:Nat,k+gh=14/\wr.heap[w1.heap.size]?=some (.stringIter escS k)/\(∀ i,i<k->escs[i]?≠some b)/\PS bp s (q+1) wr/\w.g wr bp)
      case atStart=>
       have h2:=(Qk.o.drewN (nq+nq)).inc Hf;refine⟨0,rfl,HI.o _,λi hi=>zo,?_,?_⟩
       . exact ((Qk.o.drewN _).inc Hf).below (iM.alloc bR _)
       . exact aC ((aM Kv.o _).set 1 _) (aH (iM.alloc bR _) _)
      case round=>
       obtain⟨k,hkg,hit,xw,Qq,Qm⟩:=hrel;have HIT:=zh hit;have JS:=zh Qq;have Qw:=zh Qm;have j0:=zh xw;by_cases hk:k<14
       . obtain⟨e,he⟩:∃ e,escs[k]?=some e:=⟨escs[k]'(by assumption),zLe _⟩
         have YO:δ escS k=(e,1):=esc_dec ⟨k,hk⟩ e he;have hn:=run_next_any_at (P:=prog) wr w1.t escS k 0 hit (show k<escS.size from hk);rw[YO] at hn;have HE:=zh he;clear hit Qq Qm xw YO he;by_cases KO:b=e
         . have ht:((b:Int)==(e:Int))=true:=zx
           have JL:=zh KO;clear KO;go_wp2;go_ret;rw[HC.o];have GD:escs.contains b=true:=by rw[JL.o];exact List.contains_iff_mem.2 (zM HE.o)
           rw[zP GD];exact⟨_,rfl,by rw[JL.o];rfl,PS.iterAt JS.o YK _ _,xR Qw.o hww _ _⟩
         have ht:((b:Int)==(e:Int))=false:=zx
         have JL:=zh KO;clear KO;go_wp2;go_roundg (14-(k+1))
         case rel=>
          refine⟨k+1,zo,iterAt_heap _ _ _ _ _ HIT.o,λi hi=> ?_,PS.iterAt JS.o YK _ _,xR Qw.o hww _ _⟩;by_cases GO:i=k
          . rw[GO,HE.o];grind
          exact j0.o i zo
         omega
       have hk14:k=14:=zo
       have hn:=run_next_end_at (P:=prog) wr w1.t escS k 0 hit (show ¬ k<escS.size from hk);clear hit Qq Qm xw;go_wp2_with (first|(go_at_call 99;refine (eK 2 p _).mono ?_;rintro e w' ⟨rfl,rfl⟩));refine⟨rfl,?_⟩;rw[HC.o];have GD:¬ escs.contains b=true:=λh=>by
        obtain⟨i,hi⟩:=List.getElem?_of_mem (List.contains_iff_mem.1 h);have hi14:i<14:=by
         have:=(List.getElem?_eq_some_iff.1 hi).1;simpa[escs] using this
        exact j0.o i zo hi
       rw[zN GD];exact⟨rfl,Qw.o⟩
    have AB:((q:Int)==(s.size:Int))=true:=zx
    have HC:zH (cD s p=.error (2,p)):=zh zzCp;clear hx;go_in;go_wp2_with (go_at_call 119;refine hT.mono ?_;rintro e w1 ⟨v,rfl,rfl,Qd,QU⟩;obtain⟨d0,d1,g1⟩:=Qd.cells;have Qk:=zh Qd;have Kv:=zh QU;clear Qd QU);go_quiet (fail);go_wp2_with (first|(go_at_call 99;refine (eK 2 p _).mono ?_;rintro e w' ⟨rfl,rfl⟩));refine⟨rfl,?_⟩;rw[HC.o];exact⟨rfl,aM Kv.o _⟩
  have qg:(c != 92)=true:=zx
  have HC:zH (cD s p=.ok (c,q)):=zh zzCp;clear hx Al;go_in;go_wp2_with (go_at_call 119;refine hT.mono ?_;rintro e w1 ⟨v,rfl,rfl,Qd,QU⟩);go_ret;rw[HC.o];exact⟨_,rfl,rfl,Qd,QU⟩
end Go.Proofs.YtmfnmkccbldfpaaGreatDoor
namespace Go.Proofs.YtmfnmkccbldfpaaGreatDoor
variable {s:η} {p q:Nat} {c:Int}
theorem zbZ (h:cQ s p=.ok c): -1<=c/\c<=1114111/\(c≠ -1->p<s.size/\p<p+(δ s p).2/\p+(δ s p).2<=s.size):=by
 grind [cQ,iL]
theorem takeP_le (h:qW s p=.ok (c,q)) (hp:p<=s.size): -1<=c/\c<=1114111/\p<=q/\q<=s.size/\(c≠ -1->p<q):=by
 obtain⟨h1,h2⟩:=zb3 h;obtain⟨h3,h4,h5⟩:=zbZ h1
 grind
theorem zbD {k:Nat}:∀ (f p v d v' d' q:Nat),dR s k f p v d=.ok (v',d',q)->p<=q
 | 0,_,_,_,_,_,_,h=>by cases h
 | f+1,p,v,d,v',d',q,h=>by
  rw[dR] at h;split at h
  . split at h
    . cases h
    split at h
    . cases h
    have:=zbD f _ _ _ _ _ _ h;omega
  grind
theorem codedP_le {k:Nat} (h:eY s p k=.ok (c,q)):0<=c/\c<=1114111/\p<q/\q<=s.size:=by
 unfold eY at h;split at h
 . split at h
   . cases h
   next v d q' hl=>
   split at h
   . next hc=>
     injection h with h
     cases h;have:=zbD _ _ _ _ _ _ _ hl;have:=(xU hc.2.1).1;omega
   grind
 grind
theorem zdK (h:cD s p=.ok (c,q)) (hp:p<=s.size): -1<=c/\c<=1114111/\p<=q/\q<=s.size/\(cQ s p≠ .ok (-1)->0<=c/\p<q):=by
 unfold cD at h;split at h
 . cases h
 next c' q' ht=>
 obtain⟨h1,h2,h3,h4,h5⟩:=takeP_le ht hp;split at h
 . next hc=>
   have h5:=h5 zo;split at h
   . split at h
     . grind
     split at h
     . grind
     split at h
     . grind
     split at h
     . have:=codedP_le h;omega
     grind [eB]
   grind
 grind [zb3]
theorem zhs (h:oX s p=.ok (c,q)) (hp:p<=s.size):0<=c/\c<=1114111/\p<q/\q<=s.size:=by
 unfold oX at h;split at h
 . cases h
 next c' hk=>
 split at h
 . cases h
 next hc=>
 obtain⟨h1,h2,h3,h4,h5⟩:=zdK h hp
 grind
theorem zbW {x:Int×Int} (h:kV s p=.ok (x,q)) (hp:p<=s.size):0<=x.1/\x.1<=1114111/\0<=x.2/\x.2<=1114111/\x.1<=x.2/\p<q/\q<=s.size:=by
 unfold kV at h;split at h
 . cases h
 next lo q1 h1=>
 obtain⟨a1,a2,a3,a4⟩:=zhs h1 hp;split at h
 . cases h
 next c hc=>
 split at h
 . next Bc=>
   obtain⟨b1,b2,b3⟩:=zbZ hc;have hq:q1+1<=s.size:=(b3 zo).1;split at h
   . cases h
   next hi q2 h2=>
   obtain⟨c1,c2,c3,c4⟩:=zhs h2 hq
   grind
 grind
