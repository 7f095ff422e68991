/- Part of a proof. No condition. -/
import Derived.Test.YtghpmhllpaheiaaGreatDoorF00
import Derived.Test.YtghpmhllpaheiaaGreatDoorF01
import Derived.Test.YtghpmhllpaheiaaGreatDoorF02
set_option linter.unusedVariables false
set_option linter.unusedSimpArgs false
set_option maxRecDepth 100000
set_option maxHeartbeats 2000000
namespace Go.Proofs.YtghpmhllpaheiaaGreatDoor
open Go.RowKit Go.Lib
variable {w w':World} {bp p:Nat} {s:ByteArray}
abbrev wrongV (e k:Nat):Value:=.iface 193 (.agg #[.int .i64 e,.int .i64 k])
abbrev zbO (e k:Nat):Ending:=.panicked [{v:=wrongV e k,recovered:=false}]
theorem dT (e k:Nat) (w:World):Calls Tryz.prog 80 #[.int .i64 e,.int .i64 k] w λr w'=>r=zbO e k/\w=w':=by
 go_enter Tryz.func80,Tryz.ntmps80;go_wp2;exact⟨rfl,rfl,rfl⟩
def PAt (bp:Nat) (s:ByteArray) (p:Nat) (w:World):Prop:=w.heap[bp]?=some (.cells #[.string s,.int .i64 p] 196 (0,0))
abbrev mN:Nat:=4
abbrev Tabs (w:World):Prop:=Lib.Utf8Tabs 1 2 w
theorem zba (hT:Tabs w) (h:∀ a:Addr,a.block<mN->w'.cell? a=w.cell? a):Tabs w':=by
 obtain⟨h1,h2⟩:=hT;refine⟨λc hc=> ?_,λi hi=>⟨?_,?_⟩⟩
 . rw[h _ (by simp[mN])];exact h1 c hc
 . rw[h _ (by simp[mN])];exact (h2 i hi).1
 rw[h _ (by simp[mN])];exact (h2 i hi).2
theorem sF {B:Nat} (hT:Tabs w) (hb:Below B w w') (hg:mN<=B):Tabs w':=
 zba hT λa ha=>hb.cell (p:=a) (by omega)
theorem rN (w:World) (s:ByteArray):(w.drew.iter s 0).heap[w.heap.size]?=some (.stringIter s 0)/\Below w.heap.size w (w.drew.iter s 0):=
 ⟨World.iter_heap w.drew s 0,((zBr _ w).drew).alloc (zR _) _⟩
theorem PAt.cells (hp:PAt bp s p w):w.cell? ⟨bp,0,none⟩=some (.string s)/\w.cell? ⟨bp,1,none⟩=some (.int .i64 p):=by
 have c0:=aB w bp 0 _ _ _ hp;have c1:=aB w bp 1 _ _ _ hp;simp only[zLa,zLb,zLc] at c0 c1;exact⟨c0,c1⟩
theorem peek_end (bp:Nat) (s:ByteArray) (p:Nat) (w:World) (hp:PAt bp s p w) (hs:s.size<=1000) (he:p=s.size):
 Calls Tryz.prog 98 #[.pointer (some ⟨bp,0,none⟩)] w λr w'=>r=.returned (.int .i32 (-1))/\Below w.heap.size w w':=by
 obtain⟨c0,c1⟩:=hp.cells;clear hp;subst he;obtain⟨hk,hb⟩:=rN w ByteArray.empty;have hn:=run_next_end_at (P:=Tryz.prog) (w.drew.iter ByteArray.empty 0) w.heap.size ByteArray.empty 0 0 hk (by decide);clear hk;go_enter Tryz.func98,Tryz.ntmps98;go_wp2
 go_region
 go_wp2;generalize w.drew.iter ByteArray.empty 0=wx at*;refine wp_loop_rounds 1 ?_;rw[rounds_succ];go_wp2;go_ret;exact⟨rfl,hb⟩
theorem get_ext (s:ByteArray) (p i:Nat):(s.extract p s.size).get! i=s.get! (p+i):=by
 simp only[ByteArray.get!];rw[getElem!_def,getElem!_def];have e:(s.extract p s.size).data[i]?=s.data[p+i]?:=by
  rw[ByteArray.data_extract,Array.getElem?_extract];have hz:s.data.size=s.size:=rfl;split
  . rfl
  rename_i h
  rw[Array.getElem?_eq_none (by omega)]
 rw[e]
theorem mV (s:ByteArray) (p:Nat):Utf8.decode (s.extract p s.size) 0=Utf8.decode s p:=by
 rw[decode_at,decode_at];simp only[get_ext,ByteArray.size_extract,Nat.min_self,Nat.sub_zero,Nat.add_zero]
theorem peek_ok (bp:Nat) (s:ByteArray) (p:Nat) (w:World) (hp:PAt bp s p w) (hs:s.size<=1000) (he:p<s.size) (hd:(Utf8.decode s p).1≠65533):
 Calls Tryz.prog 98 #[.pointer (some ⟨bp,0,none⟩)] w λr w'=>r=.returned (.int .i32 (Utf8.decode s p).1)/\Below w.heap.size w w':=by
 obtain⟨c0,c1⟩:=hp.cells;clear hp;obtain⟨hk,hb⟩:=rN w (s.extract p s.size);have hn:=run_next_any_at (P:=Tryz.prog) (w.drew.iter (s.extract p s.size) 0) w.heap.size (s.extract p s.size) 0 0 hk (by simp;omega);have Hr:=below_iterAt hb (zR _) (s.extract p s.size) (0+(Utf8.decode (s.extract p s.size) 0).2);rw[mV,Nat.zero_add] at hn Hr;clear hk hb;have qo:(((Utf8.decode s p).1:Int)==65533)=false:=by simp;omega
 go_enter Tryz.func98,Tryz.ntmps98;go_wp2
 go_region
 go_wp2;generalize w.drew.iter (s.extract p s.size) 0=wx at*;refine wp_loop_rounds 1 ?_;rw[rounds_succ];go_wp2;go_ret;exact⟨rfl,Hr⟩
theorem peek_fffd (bp:Nat) (s:ByteArray) (p:Nat) (w:World) (hp:PAt bp s p w) (hT:Tabs w) (Ve:mN<=w.heap.size) (hs:s.size<=1000) (he:p<s.size) (hd:(Utf8.decode s p).1=65533) (VW:(Utf8.decode s p).2≠1):
 Calls Tryz.prog 98 #[.pointer (some ⟨bp,0,none⟩)] w λr w'=>r=.returned (.int .i32 65533)/\Below w.heap.size w w':=by
 obtain⟨c0,c1⟩:=hp.cells;have Hf:=aA hp;clear hp;obtain⟨hk,hb⟩:=rN w (s.extract p s.size);have hn:=run_next_any_at (P:=Tryz.prog) (w.drew.iter (s.extract p s.size) 0) w.heap.size (s.extract p s.size) 0 0 hk (by simp;omega);have Hr:=below_iterAt hb (zR _) (s.extract p s.size) (0+(Utf8.decode (s.extract p s.size) 0).2);rw[mV,Nat.zero_add] at hn Hr;rw[hd] at hn;have hg:Lib.decodeGo (s.extract p s.size)=(65533,(Utf8.decode s p).2):=by
  unfold Lib.decodeGo;rw[zN (by simp;omega),mV,<-hd]
 clear hk hb hd;have yj:(((Utf8.decode s p).2:Int)==1)=false:=by simp;omega
 generalize Kq:(Utf8.decode s p).2=nn at*;clear Kq VW;go_enter Tryz.func98,Tryz.ntmps98;go_wp2
 go_region
 go_wp2;generalize w.drew.iter (s.extract p s.size) 0=wx at*;have d0:=(Hr.cell (p:=⟨bp,0,none⟩) Hf).trans c0;have d1:=(Hr.cell (p:=⟨bp,1,none⟩) Hf).trans c1;have W6:=sF hT Hr Ve;clear c0 c1;refine wp_loop_rounds 1 ?_;rw[rounds_succ];go_wp2;generalize wx.iterAt w.heap.size (s.extract p s.size) nn=wy at*;go_region_with (go_at_call 114;refine (Tryz.utf8_DecodeRuneInString _ _ ‹_›).mono ?_;rintro e w' ⟨rfl,Qi⟩)
 all_goals go_wp2
 all_goals go_ret
 all_goals exact⟨rfl,Hr.drew.trans (Qi.mono Hr.size)⟩
theorem peek_ill (bp:Nat) (s:ByteArray) (p:Nat) (w:World) (hp:PAt bp s p w) (hT:Tabs w) (Ve:mN<=w.heap.size) (hs:s.size<=1000) (he:p<s.size) (hd:(Utf8.decode s p).1=65533) (Xq:(Utf8.decode s p).2=1):
 Calls Tryz.prog 98 #[.pointer (some ⟨bp,0,none⟩)] w λr w'=>r=zbO 2 p/\Below w.heap.size w w':=by
 obtain⟨c0,c1⟩:=hp.cells;have Hf:=aA hp;clear hp;obtain⟨hk,hb⟩:=rN w (s.extract p s.size);have hn:=run_next_any_at (P:=Tryz.prog) (w.drew.iter (s.extract p s.size) 0) w.heap.size (s.extract p s.size) 0 0 hk (by simp;omega);have Hr:=below_iterAt hb (zR _) (s.extract p s.size) (0+(Utf8.decode (s.extract p s.size) 0).2);rw[mV,Nat.zero_add] at hn Hr;rw[hd] at hn;rw[Xq] at hn Hr;have hg:Lib.decodeGo (s.extract p s.size)=(65533,1):=by
  unfold Lib.decodeGo;rw[zN (by simp;omega),mV,<-hd,<-Xq]
 clear hk hb hd Xq;go_enter Tryz.func98,Tryz.ntmps98;go_wp2
 go_region
 go_wp2;generalize w.drew.iter (s.extract p s.size) 0=wx at*;have d0:=(Hr.cell (p:=⟨bp,0,none⟩) Hf).trans c0;have d1:=(Hr.cell (p:=⟨bp,1,none⟩) Hf).trans c1;have W6:=sF hT Hr Ve;clear c0 c1;refine wp_loop_rounds 1 ?_;rw[rounds_succ];go_wp2;have UK:bp<(wx.iterAt w.heap.size (s.extract p s.size) 1).heap.size:=zLd Hf Hr.size;generalize wx.iterAt w.heap.size (s.extract p s.size) 1=wy at*
 go_region_with (go_at_call 114;refine (Tryz.utf8_DecodeRuneInString _ _ ‹_›).mono ?_;rintro e w' ⟨rfl,Qi⟩;have f1:=(Qi.cell (p:=⟨bp,1,none⟩) UK).trans d1)
 all_goals (go_wp2_with (go_at_call 80;refine (dT 2 p _).mono ?_;rintro e w' ⟨rfl,rfl⟩))
 all_goals exact⟨rfl,rfl,Hr.drew.trans (Qi.mono Hr.size)⟩
theorem zbs (s:ByteArray) (p:Nat) (he:p<s.size) (h:¬ ((Utf8.decode s p).1=65533/\(Utf8.decode s p).2=1)):
 runeLen (Utf8.decode s p).1=(Utf8.decode s p).2/\p+(Utf8.decode s p).2<=s.size/\1<=(Utf8.decode s p).2/\(Utf8.decode s p).2<=4:=by
 obtain⟨x,k,hx,hh⟩:=jA s p he h;rw[hx];unfold runeLen
 rcases hh with hh|hh|hh|hh<;>(refine⟨?_,?_,?_,?_⟩)<;>(try simp only)<;>(try omega)<;>(repeat' split)<;>omega
structure PS (bp:Nat) (s:ByteArray) (p:Nat) (w:World):Prop where
 aQ:PAt bp s p w
 tabs:Tabs w
 glob:mN<=bp
 size:s.size<=1000
 le:p<=s.size
theorem PS.lt (h:PS bp s p w):bp<w.heap.size:=aA h.aQ
theorem PS.next {q:Nat} (h:PS bp s p w) (hg:w.grownBy w' (some bp)) (ha:PAt bp s q w') (hq:q<=s.size):PS bp s q w':=
 ⟨ha,zba h.tabs λa hx=>World.cell?_of_block (w:=w) (hg.block a.block (by have:=h.lt;have:=h.glob;omega) (by simp;have:=h.glob;omega)),h.glob,h.size,hq⟩
theorem PS.below (h:PS bp s p w) (hb:Below w.heap.size w w'):PS bp s p w':=
 h.next (aF hb _) ((hb.block bp h.lt).trans h.aQ) h.le
theorem uN {c:Int} (h:cD s p=.ok c):(p=s.size\/s.size<p)/\c= -1\/p<s.size/\¬ ((Utf8.decode s p).1=65533/\(Utf8.decode s p).2=1)/\c=(Utf8.decode s p).1:=by
 unfold cD at h;split at h
 . split at h
   . cases h
   cases h;exact .inr ⟨by assumption,by assumption,rfl⟩
 cases h;exact .inl ⟨by omega,rfl⟩
theorem iF (bp:Nat) (s:ByteArray) (p:Nat) (w:World) (c:Int) (h:PS bp s p w) (hc:cD s p=.ok c):
 Calls Tryz.prog 98 #[.pointer (some ⟨bp,0,none⟩)] w λr w'=>r=.returned (.int .i32 c)/\Below w.heap.size w w':=by
 have hg:mN<=w.heap.size:=by have:=h.lt;have:=h.glob;omega
 rcases uN hc with⟨h1,rfl⟩|⟨h1,h2,rfl⟩
 . exact peek_end bp s p w h.aQ h.size (by have:=h.le;omega)
 by_cases h3:(Utf8.decode s p).1=65533
 . refine (peek_fffd bp s p w h.aQ h.tabs hg h.size h1 h3 (λh4=>h2 ⟨h3,h4⟩)).mono λr w' hr=> ?_
   rw[h3];exact hr
 exact peek_ok bp s p w h.aQ h.size h1 h3
theorem kO (bp:Nat) (s:ByteArray) (p:Nat) (w:World) (e:jU) (h:PS bp s p w) (hc:cD s p=.error e):
 Calls Tryz.prog 98 #[.pointer (some ⟨bp,0,none⟩)] w λr w'=>r=zbO e.1 e.2/\Below w.heap.size w w':=by
 have hg:mN<=w.heap.size:=by have:=h.lt;have:=h.glob;omega
 unfold cD at hc;split at hc
 . split at hc
   . rename_i h1 h2
     cases hc;exact peek_ill bp s p w h.aQ h.tabs hg h.size h1 h2.1 h2.2
   cases hc
 cases hc
end Go.Proofs.YtghpmhllpaheiaaGreatDoor
namespace Go.Proofs.YtghpmhllpaheiaaGreatDoor
open Go.RowKit
theorem aV {B:Nat} {a b:World} (h:Below B a b) (n:Nat):Below B a (b.drewN n):=⟨h.os,h.tape,h.output,h.size,h.block⟩
end Go.Proofs.YtghpmhllpaheiaaGreatDoor
namespace Go.Proofs.YtghpmhllpaheiaaGreatDoor
open Go.RowKit Go.Lib
theorem PAt.set {bp:Nat} {s:ByteArray} {p:Nat} {w:World} (h:PAt bp s p w) (q:Nat):PAt bp s q (w.setCell ⟨bp,1,none⟩ (.int .i64 q)):=
 aC w bp 1 _ _ _ _ h
theorem eO (w:World) (bp o:Nat) (v:Value):w.grownBy (w.setCell ⟨bp,o,none⟩ v) (some bp):=
 ⟨rfl,rfl,rfl,by simp[World.setCell],λk _ hr=>Below.heap_setCell _ _ _ _ (λe=>hr (by rw[e]))⟩
theorem zbx {a b:World} {row:Option Nat} (h:a.grownBy b row):a.grownBy b.drew row:=⟨h.os,h.tape,h.output,h.size,h.block⟩
theorem take_end (bp:Nat) (s:ByteArray) (p:Nat) (w:World) (h:PS bp s p w) (hc:nZ s p=.ok (-1,p)) (hk:cD s p=.ok (-1)):
 Calls Tryz.prog 99 #[.pointer (some ⟨bp,0,none⟩)] w λr w'=>r=.returned (.int .i32 (-1))/\PS bp s p w'/\w.grownBy w' (some bp):=by
 have hP:=iF bp s p w _ h hk;have H:=zh h;clear h hc hk;go_enter Tryz.func99,Tryz.ntmps99;go_wp2_with (go_at_call 98;refine hP.mono ?_;rintro e w' ⟨rfl,hb⟩);go_ret;exact⟨rfl,H.o.below hb,aF hb _⟩
theorem take_some (bp:Nat) (s:ByteArray) (p:Nat) (w:World) (c:Int) (n:Nat) (h:PS bp s p w) (hk:cD s p=.ok c) (yu:0<=c) (hn:runeLen c=n) (hn4:n<=4) (TN:p+n<=s.size):
 Calls Tryz.prog 99 #[.pointer (some ⟨bp,0,none⟩)] w λr w'=>r=.returned (.int .i32 c)/\PS bp s (p+n) w'/\w.grownBy w' (some bp):=by
 have hP:=iF bp s p w _ h hk;have hL:=λw=>zeh c w;rw[hn] at hL;have H:=zh h;have Hs:=h.size;have Lj:(p:Int)<=1000:=by omega
 have qo:(c != -1)=true:=by simp;omega
 clear h hn hk;go_enter Tryz.func99,Tryz.ntmps99;go_wp2_with (go_at_call 98;refine hP.mono ?_;rintro e w' ⟨rfl,hb⟩);have h1:=H.o.below hb;have H1:=zh h1;obtain⟨c0,c1⟩:=h1.aQ.cells;have f1:=aM w' bp 1 _ _ h1.aQ;clear h1;have hw:IntKind.i64.wrap ((p:Int)+(n:Int))=((p+n:Nat):Int):=by rw[zIn _ (by omega)];omega
 go_region_with (go_at_call 75;refine (hL _).mono ?_;rintro e w2 ⟨rfl,rfl⟩)
 all_goals go_wp2
 all_goals go_ret
 all_goals (
  have h2:PS bp s (p+n) (w'.setCell ⟨bp,1,none⟩ (.int .i64 ((p+n:Nat):Int))).drew:=H1.o.next (zbx (eO w' bp 1 _)) (H1.o.aQ.set (p+n)) TN;exact⟨rfl,h2,aD (aF hb _) (zbx (eO w' bp 1 _))⟩)
theorem zaw {s:ByteArray} {p:Nat} {c:Int} {q:Nat} (h:nZ s p=.ok (c,q)):cD s p=.ok c/\q=if c= -1 then p else p+(Utf8.decode s p).2:=by
 unfold nZ at h;split at h
 . cases h
 cases h;exact⟨by assumption,rfl⟩
theorem kS (bp:Nat) (s:ByteArray) (p:Nat) (w:World) (c:Int) (q:Nat) (h:PS bp s p w) (hc:nZ s p=.ok (c,q)):
 Calls Tryz.prog 99 #[.pointer (some ⟨bp,0,none⟩)] w λr w'=>r=.returned (.int .i32 c)/\PS bp s q w'/\w.grownBy w' (some bp):=by
 obtain⟨hk,hq⟩:=zaw hc
 rcases uN hk with⟨h1,rfl⟩|⟨h1,h2,rfl⟩
 . rw[zP rfl] at hq;subst hq
   exact take_end bp s q w h hc hk
 rw[zN (by omega)] at hq;subst hq
 obtain⟨l1,l2,l3,l4⟩:=zbs s p h1 h2;exact take_some bp s p w _ _ h hk (by omega) l1 l4 l2
theorem take_err (bp:Nat) (s:ByteArray) (p:Nat) (w:World) (e:jU) (h:PS bp s p w) (hc:nZ s p=.error e):
 Calls Tryz.prog 99 #[.pointer (some ⟨bp,0,none⟩)] w λr w'=>r=zbO e.1 e.2/\Below w.heap.size w w':=by
 have hk:cD s p=.error e:=by
  unfold nZ at hc;split at hc
  . cases hc;assumption
  cases hc
 have hP:=kO bp s p w _ h hk;clear h hc hk;go_enter Tryz.func99,Tryz.ntmps99;go_wp2_with (go_at_call 98;refine hP.mono ?_;rintro e w' ⟨rfl,hb⟩);exact⟨rfl,rfl,hb⟩
end Go.Proofs.YtghpmhllpaheiaaGreatDoor
namespace Go.Proofs.YtghpmhllpaheiaaGreatDoor
open Go.RowKit Go.Lib
variable {bp p:Nat} {s:ByteArray} {w:World}
theorem fP (s:ByteArray) (p:Nat) (h:p<s.size):((s[p]'h).toNat:Int)=cE s p:=by
 have e:s.get! p=s[p]'h:=by
  simp[ByteArray.get!,getElem!_pos,h];rfl
 unfold cE;rw[e]
theorem PS.inc (h:PS bp s p w) (hq:p+1<=s.size):PS bp s (p+1) (w.setCell ⟨bp,1,none⟩ (.int .i64 ((p:Int)+1))):=by
 have e:((p:Int)+1)=((p+1:Nat):Int):=by omega
 rw[e];exact h.next (eO w bp 1 _) (h.aQ.set (p+1)) hq
theorem PS.drewN (h:PS bp s p w) (n:Nat):PS bp s p (w.drewN n):=
 h.next ⟨rfl,rfl,rfl,zR _,λ_ _ _=>rfl⟩ h.aQ h.le
theorem bH {a b:World} {row:Option Nat} (h:a.grownBy b row) (n:Nat):a.grownBy (b.drewN n) row:=⟨h.os,h.tape,h.output,h.size,h.block⟩
theorem _root_.Go.World.grownBy.set {a b:World} (h:a.grownBy b (some bp)) (o:Nat) (v:Value):a.grownBy (b.setCell ⟨bp,o,none⟩ v) (some bp):=aD h (eO b bp o v)
theorem zcs (bp:Nat) (s:ByteArray) (p c:Nat) (w:World) (h:PS bp s p w) (hp:p<s.size) (hc:cE s p=c):
 Calls Tryz.prog 164 #[.pointer (some ⟨bp,0,none⟩),.int .u8 c] w λr w'=>r=.returned (.bool true)/\PS bp s (p+1) w'/\w.grownBy w' (some bp):=by
 obtain⟨c0,c1⟩:=h.aQ.cells;have f1:=aM w bp 1 _ _ h.aQ;have H:=zh h;have hs:=h.size;have hb:=fP s p hp;rw[hc] at hb;have hz:(p:Int)<(s.size:Int):=by omega
 clear h hc;have hw:=zW p (by omega);go_enter Tryz.func164,Tryz.ntmps164;go_wp2;go_quiet (fail);go_wp2;go_ret;exact⟨rfl,(H.o.drewN nq).inc hp,(bH (eK w (some bp)) nq).set 1 _⟩
theorem sign_no (bp:Nat) (s:ByteArray) (p c:Nat) (w:World) (h:PS bp s p w) (hc:p<s.size->cE s p≠c):
 Calls Tryz.prog 164 #[.pointer (some ⟨bp,0,none⟩),.int .u8 c] w λr w'=>r=.returned (.bool false)/\PS bp s p w'/\w.grownBy w' (some bp):=by
 obtain⟨c0,c1⟩:=h.aQ.cells;have H:=zh h;clear h;by_cases hp:p<s.size
 . have hb:=fP s p hp
   have qo:((cE s p:Int)==(c:Int))=false:=by have:=hc hp;simp;omega
   have hz:(p:Int)<(s.size:Int):=by omega
   clear hc;go_enter Tryz.func164,Tryz.ntmps164;go_wp2;go_quiet (fail);go_wp2;go_ret;exact⟨rfl,H.o.drewN nq,bH (eK w _) nq⟩
 have hd:decide ((p:Int)<(s.size:Int))=false:=by simp;omega
 clear hc;go_enter Tryz.func164,Tryz.ntmps164;go_wp2;go_quiet (fail);go_wp2;go_ret;exact⟨rfl,H.o.drewN nq,bH (eK w _) nq⟩
theorem rM {c:Nat} (h:pO s p c=true):p<s.size/\cE s p=c:=by
 unfold pO at h;simpa using h
theorem isB_no {c:Nat} (h:pO s p c=false):p<s.size->cE s p≠c:=by
 unfold pO at h;simpa using h
theorem zcr (bp:Nat) (s:ByteArray) (p c:Nat) (w:World) (h:PS bp s p w):
 Calls Tryz.prog 164 #[.pointer (some ⟨bp,0,none⟩),.int .u8 c] w λr w'=>r=.returned (.bool (pO s p c))/\PS bp s (if pO s p c then p+1 else p) w'/\w.grownBy w' (some bp):=by
 cases hx:pO s p c with
 | true=>exact zcs bp s p c w h (rM hx).1 (rM hx).2
 | false=>exact sign_no bp s p c w h (isB_no hx)
def Out {α:Type} (bp:Nat) (s:ByteArray) (w:World) (V:α->Value->World->Prop) (x:Except jU (α×Nat)) (r:Ending) (w':World):Prop:=
 match x with
 | .ok (a,q)=>∃ v,r=.returned v/\V a v w'/\PS bp s q w'/\w.grownBy w' (some bp)
 | .error e=>r=zbO e.1 e.2/\w.grownBy w' (some bp)
theorem oG (bf k:Nat) (w:World) (hf:w.cell? ⟨bf,0,none⟩=some (.int .i64 k)):
 Calls Tryz.prog 162 #[.pointer (some ⟨bf,0,none⟩)] w λr w'=>r=zbO 4 k/\w=w':=by
 go_enter Tryz.func162,Tryz.ntmps162;go_wp2_with (go_at_call 80;refine (dT 4 k _).mono ?_;rintro e w' ⟨rfl,rfl⟩);exact⟨rfl,rfl,rfl⟩
def yS (s:ByteArray) (p:Nat):Nat->Nat
 | 0=>0
 | 1=>cE s p-48
 | _=>10*(cE s p-48)+(cE s (p+1)-48)
theorem zdO (h:dig s p=true):p<s.size/\48<=cE s p/\cE s p<=57:=by
 unfold dig at h;simpa using h
theorem dig_of (h1:p<s.size) (h2:48<=cE s p) (h3:cE s p<=57):dig s p=true:=by
 unfold dig;simp[h1,h2,h3]
theorem dig_no (h:¬ (p<s.size/\48<=cE s p/\cE s p<=57)):dig s p=false:=by
 unfold dig;simp;omega
theorem pQ {k j:Nat} (hj:j<=2) (hd:∀ i,i<j->dig s (p+i)=true) (hn:dig s (p+j)=false):
 dX s p k=if j=0 then .error (4,k) else .ok (yS s p j,p+j):=by
 unfold dX
 rcases (by omega:j=0\/j=1\/j=2) with rfl|rfl|rfl
 . have hn:dig s p=false:=hn
   rw[zN (by rw[hn];decide),zP rfl]
 . have h0:dig s p=true:=hd 0 (by omega)
   rw[zP h0,zN (by rw[hn];decide),zN (by decide)];rfl
 have h0:dig s p=true:=hd 0 (by omega)
 have h1:dig s (p+1)=true:=hd 1 (by omega);rw[zP h0,zP h1,zN (by rw[hn];decide),zN (by decide)];rfl
theorem zaY {k:Nat} (hd:∀ i,i<3->dig s (p+i)=true):dX s p k=.error (4,k):=by
 have h0:dig s p=true:=hd 0 (by omega);have h1:dig s (p+1)=true:=hd 1 (by omega);have h2:dig s (p+2)=true:=hd 2 (by omega);unfold dX;rw[zP h0,zP h1,zP h2]
theorem PS.cells (h:PS bp s p w):w.cell? ⟨bp,0,none⟩=some (.string s)/\w.cell? ⟨bp,1,none⟩=some (.int .i64 p)/\w.frozen? ⟨bp,1,none⟩=false:=
 ⟨h.aQ.cells.1,h.aQ.cells.2,aM w bp 1 _ _ h.aQ⟩
theorem PS.set (h:PS bp s p w) (q:Nat) (hq:q<=s.size) (z:Int) (hz:z=q):PS bp s q (w.setCell ⟨bp,1,none⟩ (.int .i64 z)):=by
 subst hz;exact h.next (eO w bp 1 _) (h.aQ.set q) hq
theorem valN_le (s:ByteArray) (p j:Nat):yS s p j<=10000:=by
 have h1:=mT s p;have h2:=mT s (p+1);unfold yS;generalize cE s p=a at*;generalize cE s (p+1)=b at*;split<;>omega
theorem zdx (s:ByteArray) (p j:Nat) (hj:j<=1):yS s p (j+1)=10*yS s p j+(cE s (p+j)-48):=by
 rcases (by omega:j=0\/j=1) with rfl|rfl
 . unfold yS;simp
 unfold yS;simp
theorem rY (bp bf:Nat) (s:ByteArray) (p k:Nat) (w:World) (h:PS bp s p w) (hf:w.cell? ⟨bf,0,none⟩=some (.int .i64 k)) (qo:bf≠bp):
 Calls Tryz.prog 163 #[.pointer (some ⟨bp,0,none⟩),.func (.func 162) #[] #[.pointer (some ⟨bf,0,none⟩)]] w
  (Out bp s w (λn v _=>v=.int .i64 (n:Nat)) (dX s p k)):=by
 obtain⟨c0,c1,f1⟩:=h.cells;have H:=zh h;have hs:=h.size;have hp:=h.le;clear h;go_enter Tryz.func163,Tryz.ntmps163;go_wp2;go_quiet (fail);go_wp2;go_loopg [5] 3 (λg n wr=>∃ j:Nat,j+g=3/\j<=2/\n=.int .i64 (yS s p j)/\(∀ i,i<j->dig s (p+i)=true)/\PS bp s (p+j) wr/\w.grownBy wr (some bp))
 case atStart=>exact⟨0,by omega,by omega,rfl,λi hi=>by omega,H.o.drewN nq,bH (eK w _) nq⟩
 case round=>
  obtain⟨j,hjg,hj,rfl,hd,Qu,QJ⟩:=hrel;have DQ:=valN_le s p j;generalize tx:p+j=q at*;have HQ:=zh tx;generalize wE:yS s p j=v at*;have HV:=zh wE;clear tx wE;obtain⟨d0,d1,g1⟩:=Qu.cells;have Qt:=Qu.le;have HP:=zh Qu;have HD:=zh hd;have YN:wr.cell? ⟨bf,0,none⟩=some (.int .i64 k):=QJ.cell hf (by simp;exact qo);have HG:=zh QJ;clear Qu hd QJ c0 c1 f1 hf;have xq:(p:Int)<=(q:Int):=by have:=HQ.o;omega
  by_cases Hf:q<s.size
  . have hz:(q:Int)<(s.size:Int):=by omega
    have hb:=fP s q Hf;have Hz:=mT s q;by_cases WU:48<=cE s q
    . have Iq:(48:Int)<=(cE s q:Int):=by omega
      by_cases WV:cE s q<=57
      . have K6:(cE s q:Int)<=57:=by omega
        have hw:=zW q (by omega);have NB:dig s q=true:=dig_of Hf WU WV;have yl:∀ i,i<j+1->dig s (p+i)=true:=λi hi=>by
         by_cases e:i=j
         . rw[e,HQ.o];exact NB
         exact HD.o i (by omega)
        have r9:=zh yl;clear yl NB;by_cases A1:j=2
        . have XX:decide ((2:Int)<(q:Int)+1-(p:Int))=true:=by have:=HQ.o;simp;omega
          have hx:dX s p k=.error (4,k):=zaY (λi hi=>r9.o i (by omega));have HX:=zh hx;have P5:∀ n,((wr.drewN n).setCell ⟨bp,1,none⟩ (.int .i64 ((q:Int)+1))).cell? ⟨bf,0,none⟩=some (.int .i64 k):=λn=>(bH (eK wr (some bp)) n |>.set 1 _).cell YN (by simp;exact qo);have KF:=zh P5;clear hx P5;go_wp2;go_quiet (fail);go_wp2;go_quiet (fail);go_wp2_with (go_at_call 162;refine (oG bf k _ (by exact KF.o _)).mono ?_;rintro e w' ⟨rfl,rfl⟩);refine⟨rfl,?_⟩;rw[HX.o]
          exact⟨rfl,(bH HG.o _).set 1 _⟩
        have XX:decide ((2:Int)<(q:Int)+1-(p:Int))=false:=by have:=HQ.o;simp;omega
        go_wp2;go_quiet (fail);go_wp2;go_quiet (fail);go_wp2;go_roundg (3-(j+1))
        case rel=>
         have e1:yS s p (j+1)=10*v+(cE s q-48):=by rw[zdx s p j (by omega),HV.o,HQ.o]
         have e2:p+(j+1)=q+1:=by have:=HQ.o;omega
         refine⟨j+1,by omega,by omega,?_,r9.o,?_,(bH HG.o _).set 1 _⟩
         . rw[e1]
           exact congrArg (Value.int IntKind.i64) (by omega)
         . rw[e2]
           exact (HP.o.drewN _).inc (by omega)
        case measure=>omega
      have K6:decide ((cE s q:Int)<=57)=false:=by simp;omega
      have HX:=zh (pQ (k:=k) hj HD.o (by rw[HQ.o];exact dig_no (by omega)));have hx:=HX.o;by_cases Jn:j=0
      . rw[zP Jn] at hx
        have G5:((q:Int)==(p:Int))=true:=by have:=HQ.o;simp;omega
        have V9:=zh hx;clear hx;go_wp2;go_quiet (fail);go_wp2_with (go_at_call 162;refine (oG bf k _ (by exact YN)).mono ?_;rintro e w' ⟨rfl,rfl⟩);refine⟨rfl,?_⟩;rw[V9.o];exact⟨rfl,bH HG.o nq⟩
      rw[zN Jn,HV.o,HQ.o] at hx
      have G5:((q:Int)==(p:Int))=false:=by have:=HQ.o;simp;omega
      have V9:=zh hx;clear hx;go_wp2;go_quiet (fail);go_wp2;go_ret;rw[V9.o];exact⟨_,rfl,rfl,HP.o.drewN nq,bH HG.o nq⟩
    have Iq:decide ((48:Int)<=(cE s q:Int))=false:=by simp;omega
    have HX:=zh (pQ (k:=k) hj HD.o (by rw[HQ.o];exact dig_no (by omega)));have hx:=HX.o;by_cases Jn:j=0
    . rw[zP Jn] at hx
      have G5:((q:Int)==(p:Int))=true:=by have:=HQ.o;simp;omega
      have V9:=zh hx;clear hx;go_wp2;go_quiet (fail);go_wp2_with (go_at_call 162;refine (oG bf k _ (by exact YN)).mono ?_;rintro e w' ⟨rfl,rfl⟩);refine⟨rfl,?_⟩;rw[V9.o];exact⟨rfl,bH HG.o nq⟩
    rw[zN Jn,HV.o,HQ.o] at hx
    have G5:((q:Int)==(p:Int))=false:=by have:=HQ.o;simp;omega
    have V9:=zh hx;clear hx;go_wp2;go_quiet (fail);go_wp2;go_ret;rw[V9.o];exact⟨_,rfl,rfl,HP.o.drewN nq,bH HG.o nq⟩
  have hz:decide ((q:Int)<(s.size:Int))=false:=by simp;omega
  have HX:=zh (pQ (k:=k) hj HD.o (by rw[HQ.o];exact dig_no (by omega)));have hx:=HX.o;by_cases Jn:j=0
  . rw[zP Jn] at hx
    have G5:((q:Int)==(p:Int))=true:=by have:=HQ.o;simp;omega
    have V9:=zh hx;clear hx;go_wp2;go_quiet (fail);go_wp2_with (go_at_call 162;refine (oG bf k _ (by exact YN)).mono ?_;rintro e w' ⟨rfl,rfl⟩);refine⟨rfl,?_⟩;rw[V9.o];exact⟨rfl,bH HG.o nq⟩
  rw[zN Jn,HV.o,HQ.o] at hx
  have G5:((q:Int)==(p:Int))=false:=by have:=HQ.o;simp;omega
  have V9:=zh hx;clear hx;go_wp2;go_quiet (fail);go_wp2;go_ret;rw[V9.o];exact⟨_,rfl,rfl,HP.o.drewN nq,bH HG.o nq⟩
end Go.Proofs.YtghpmhllpaheiaaGreatDoor
namespace Go.Proofs.YtghpmhllpaheiaaGreatDoor
open Go.RowKit Go.Lib
theorem take_any (bp:Nat) (s:ByteArray) (p:Nat) (w:World) (h:PS bp s p w):
 Calls Tryz.prog 99 #[.pointer (some ⟨bp,0,none⟩)] w (Out bp s w (λc v _=>v=.int .i32 c) (nZ s p)):=by
 cases hx:nZ s p with
 | ok cq=>exact (kS bp s p w cq.1 cq.2 h hx).mono λr w' ⟨h1,h2,h3⟩=>⟨_,h1,rfl,h2,h3⟩
 | error e=>exact (take_err bp s p w e h hx).mono λr w' ⟨h1,h2⟩=>⟨h1,aF h2 _⟩
theorem zaz (a d:Nat) (ha:a<16777216) (hd:d<16):bits .or .i32 ((a:Int)*16) (d:Int)=((16*a+d:Nat):Int):=by
 rw[bits_join .i32 31 (by decide) wraps_i32 4 _ _ (by omega) (by omega) (by omega) (by omega) (by omega) (by omega)];omega
theorem zeW:∀ x:Fin 256,bits .or .u8 ((x.val:Nat):Int) 32=((x.val|||32:Nat):Int):=by decide
theorem zcY:∀ x:Fin 256,mX x.val=none->¬ (48<=x.val/\x.val<=57)/\¬ (97<=(x.val|||32)/\(x.val|||32)<=102):=by decide
theorem zcZ:∀ x:Fin 256,∀ d∈mX x.val,d<16/\((48<=x.val/\x.val<=57/\d+48=x.val)\/(¬ (48<=x.val/\x.val<=57)/\97<=(x.val|||32)/\(x.val|||32)<=102/\d+87=(x.val|||32))):=by decide
theorem zbh (s:ByteArray) (k f p v d:Nat):cX s k (f+1) p v d=
 if decide (p<s.size)&& !decide (cE s p=125) then
  match mX (cE s p) with
  | none=>.error (2,k)
  | some h=>if d=6 then .error (2,k) else cX s k f (p+1) (16*v+h) (d+1)
 else .ok (v,d,p):=rfl
theorem zcK (bp:Nat) (s:ByteArray) (p k:Nat) (w:World) (h:PS bp s p w):
 Calls Tryz.prog 167 #[.pointer (some ⟨bp,0,none⟩),.int .i64 k] w (Out bp s w (λc v _=>v=.int .i32 c) (dZ s p k)):=by
 have hS:=zcr bp s p 123 w h;have hs:=h.size;clear h;cases h1:pO s p 123 with
 | false=>
  rw[h1] at hS;have HC:zH (dZ s p k=.error (2,k)):=zh (by rw[dZ,h1,zN (by decide)]);go_enter Tryz.func167,Tryz.ntmps167;go_wp2_with (first|(go_at_call 164;refine hS.mono ?_;rintro e w1 ⟨rfl,qz,Qv⟩)|(go_at_call 80;refine (dT 2 k _).mono ?_;rintro e w' ⟨rfl,rfl⟩));refine⟨rfl,?_⟩;rw[HC.o];exact⟨rfl,Qv⟩
 | true=>
  rw[h1,zP rfl] at hS;have HE:∀ e,cX s k 8 (p+1) 0 0=.error e->dZ s p k=.error e:=λe he=>by rw[dZ,h1,zP rfl,he]
  have HO:∀ v d q,cX s k 8 (p+1) 0 0=.ok (v,d,q)->dZ s p k=if d≠0/\pO s q 125=true/\((v<55296)\/(57343<v/\v<=1114111)) then .ok (v,q+1) else .error (2,k):=λv d q he=>by rw[dZ,h1,zP rfl,he]
  have JH:=zh HE;have Nf:=zh HO;clear HE HO;clear h1;go_enter Tryz.func167,Tryz.ntmps167;go_wp2_with (first|(go_at_call 164;refine hS.mono ?_;rintro e w1 ⟨rfl,qz,Qv⟩));have qy:=zh qz;have Vm:=zh Qv;clear qz Qv hS;go_loopg [5,6] 8 (λgh v d wr=>∃ (a n f:Nat),f=gh/\n+f=8/\n<=6/\v=.int .i32 a/\d=.int .i64 n/\a<16^n/\cX s k 8 (p+1) 0 0=cX s k f (p+1+n) a n/\PS bp s (p+1+n) wr/\w.grownBy wr (some bp))
  case atStart=>exact⟨0,0,8,rfl,rfl,by omega,rfl,rfl,by decide,rfl,qy.o,Vm.o⟩
  case round=>
   obtain⟨a,n,f,Gc,SW,ZS,rfl,rfl,ha,Ht,Qu,QJ⟩:=hrel;have ni:=zh Gc;have L9:=zh SW;clear Gc;generalize tx:p+1+n=q at*;have HQ:=zh tx;clear tx;obtain⟨d0,d1,g1⟩:=Qu.cells;have Qt:=Qu.le;have HP:=zh Qu;have HG:=zh QJ;have Hz:=mT s q;have FK:a<16777216:=zLd ha (Nat.pow_le_pow_right (n:=16) (by decide) ZS);have HA:=zh ha;obtain⟨g,hg⟩:∃ g,f=g+1:=⟨f-1,by omega⟩;rw[hg,zbh s k g q a n] at Ht;have J9:=zh hg;clear hg SW
   have HL:=zh Ht;clear Qu QJ ha Ht;have wg:(q:Int)+1<=2000:=by omega
   by_cases Hf:q<s.size
   . have hz:(q:Int)<(s.size:Int):=by omega
     have hb:=fP s q Hf;by_cases QW:cE s q=125
     . have PU:((cE s q:Int) != 125)=false:=by simp;omega
       have hB:pO s q 125=true:=by unfold pO;simp[Hf,QW]
       have hL:=HL.o;rw[zN (by simp[QW])] at hL;have KH:=zh hL;have na:=zh hB;clear hL QW hB;have tS:=Nf.o _ _ _ KH.o;clear PU;by_cases Yj:n=0
       . have Om:((n:Int)==0)=true:=by simp;omega
         have PU:((cE s q:Int) != 125)=false:=by have:=na.o;unfold pO at this;simp at this;simp[this]
         rw[zN (by simp[Yj])] at tS;have Ng:=zh tS;clear tS Yj;go_wp2;go_quiet (fail);go_wp2_with (first|(go_at_call 80;refine (dT 2 k _).mono ?_;rintro e w' ⟨rfl,rfl⟩));refine⟨rfl,?_⟩;rw[Ng.o];exact⟨rfl,bH HG.o _⟩
       have Om:((n:Int)==0)=false:=by simp;omega
       have j6:=(rM na.o).2;have PU:((cE s q:Int) != 125)=false:=by simp[j6]
       cases hv:validRune a with
       | true=>
        have Ib:=λw=>xQ (a:Int) w;rw[hv] at Ib;rw[zP ⟨Yj,na.o,by unfold validRune at hv;simp at hv;omega⟩] at tS;have Ng:=zh tS;have LG:=zh j6;clear tS Yj hv j6;go_wp2;go_quiet (fail);go_wp2_with (first|(go_at_call 164;refine (zcs bp s q 125 _ (by exact HP.o.drewN _) Hf LG.o).mono ?_;rintro e w2 ⟨rfl,Qy,qf⟩)|(go_at_call 85;refine (Ib _).mono ?_;rintro e w' ⟨rfl,rfl⟩));go_ret;rw[Ng.o];exact⟨_,rfl,rfl,Qy,aD (bH HG.o _) qf⟩
       | false=>
        have Ib:=λw=>xQ (a:Int) w;rw[hv] at Ib;rw[zN (by rintro⟨_,_,h⟩;unfold validRune at hv;simp at hv;omega)] at tS;have Ng:=zh tS;have LG:=zh j6;clear tS Yj hv j6;go_wp2;go_quiet (fail);go_wp2_with (first|(go_at_call 164;refine (zcs bp s q 125 _ (by exact HP.o.drewN _) Hf LG.o).mono ?_;rintro e w2 ⟨rfl,Qy,qf⟩)|(go_at_call 85;refine (Ib _).mono ?_;rintro e w' ⟨rfl,rfl⟩)|(go_at_call 80;refine (dT 2 k _).mono ?_;rintro e w' ⟨rfl,rfl⟩));refine⟨rfl,?_⟩;rw[Ng.o]
        exact⟨rfl,aD (bH HG.o _) qf⟩
     have PU:((cE s q:Int) != 125)=true:=by simp;omega
     have hL:=HL.o;rw[zP (by simp[Hf,QW])] at hL;clear HL QW;cases hh:mX (cE s q) with
     | none=>
      obtain⟨k1,k2⟩:=zcY ⟨cE s q,Hz⟩ hh;have ho:=zeW ⟨cE s q,Hz⟩;simp only at k1 k2 ho;rw[hh] at hL;have HL:=zh hL;clear hL hh;generalize Xi:cE s q|||32=bo at*;generalize cE s q=b at*;clear Xi;by_cases j1:48<=b
      . have kz1:(48:Int)<=(b:Int):=by omega
        have kz2:¬ ((b:Int)<=57):=by omega
        by_cases j2:97<=bo
        . have kz3:(97:Int)<=(bo:Int):=by omega
          have kz4:¬ ((bo:Int)<=102):=by omega
          go_wp2;go_quiet (fail);go_wp2;go_quiet (fail);go_wp2_with (first|(go_at_call 80;refine (dT 2 k _).mono ?_;rintro e w' ⟨rfl,rfl⟩));refine⟨rfl,?_⟩;rw[JH.o _ HL.o];exact⟨rfl,bH HG.o _⟩
        have kz3:¬ ((97:Int)<=(bo:Int)):=by omega
        go_wp2;go_quiet (fail);go_wp2;go_quiet (fail);go_wp2_with (first|(go_at_call 80;refine (dT 2 k _).mono ?_;rintro e w' ⟨rfl,rfl⟩));refine⟨rfl,?_⟩;rw[JH.o _ HL.o];exact⟨rfl,bH HG.o _⟩
      . have kz1:¬ ((48:Int)<=(b:Int)):=by omega
        by_cases j2:97<=bo
        . have kz3:(97:Int)<=(bo:Int):=by omega
          have kz4:¬ ((bo:Int)<=102):=by omega
          go_wp2;go_quiet (fail);go_wp2;go_quiet (fail);go_wp2_with (first|(go_at_call 80;refine (dT 2 k _).mono ?_;rintro e w' ⟨rfl,rfl⟩));refine⟨rfl,?_⟩;rw[JH.o _ HL.o];exact⟨rfl,bH HG.o _⟩
        . have kz3:¬ ((97:Int)<=(bo:Int)):=by omega
          go_wp2;go_quiet (fail);go_wp2;go_quiet (fail);go_wp2_with (first|(go_at_call 80;refine (dT 2 k _).mono ?_;rintro e w' ⟨rfl,rfl⟩));refine⟨rfl,?_⟩;rw[JH.o _ HL.o];exact⟨rfl,bH HG.o _⟩
     | some d=>
      obtain⟨Uw,P3⟩:=zcZ ⟨cE s q,Hz⟩ d hh;have ho:=zeW ⟨cE s q,Hz⟩;simp only at Uw P3 ho;rw[hh] at hL
      replace hL:cX s k 8 (p+1) 0 0=if n=6 then .error (2,k) else cX s k g (q+1) (16*a+d) (n+1):=hL
      have HL:=zh hL;clear hL hh;generalize Xi:cE s q|||32=bo at*;generalize cE s q=b at*;clear Xi
      rcases P3 with⟨k1,k2,k3⟩|⟨k1,k2,k3,k4⟩
      . have kz1:(48:Int)<=(b:Int):=by omega
        have kz2:(b:Int)<=57:=by omega
        have KD:zH ((b:Int)-48=(d:Int)):=by show _=_;omega
        clear ho k3;by_cases hn:n=6
        . have VL:decide ((6:Int)<(n:Int)+1)=true:=by simp;omega
          have hL:=HL.o;rw[zP hn] at hL;have KH:=zh hL;clear hL hn;go_wp2;go_quiet (fail);go_wp2;go_quiet (fail);go_wp2_with (first|(go_at_call 80;refine (dT 2 k _).mono ?_;rintro e w' ⟨rfl,rfl⟩));refine⟨rfl,?_⟩;rw[JH.o _ KH.o];exact⟨rfl,bH HG.o _⟩
        have VL:decide ((6:Int)<(n:Int)+1)=false:=by simp;omega
        have hL:=HL.o;rw[zN hn] at hL;have KH:=zh hL;have SU:n<=5:=by omega
        clear hL hn;go_wp2;go_quiet (fail);go_wp2;go_quiet (fail);go_wp2;go_roundg g
        case rel=>
         have e2:p+1+(n+1)=q+1:=by have:=HQ.o;omega
         refine⟨16*a+d,n+1,g,rfl,by have:=L9.o;have:=J9.o;omega,by omega,?_,rfl,?_,?_,?_,(bH HG.o _).set 1 _⟩
         . rw[KD.o]
           exact congrArg (Value.int IntKind.i32) (zaz a d FK Uw)
         . have:=HA.o
           rw[Nat.pow_succ];omega
         . rw[KH.o,e2]
         . rw[e2];exact (HP.o.drewN _).inc Hf
        case measure=>have:=ni.o;have:=J9.o;omega
      have kz3:(97:Int)<=(bo:Int):=by omega
      have kz4:(bo:Int)<=102:=by omega
      have KD:zH ((bo:Int)-97+10=(d:Int)):=by show _=_;omega
      clear k4;by_cases j1:48<=b
      . have kz1:(48:Int)<=(b:Int):=by omega
        have kz2:¬ ((b:Int)<=57):=by omega
        by_cases hn:n=6
        . have VL:decide ((6:Int)<(n:Int)+1)=true:=by simp;omega
          have hL:=HL.o;rw[zP hn] at hL;have KH:=zh hL;clear hL hn;go_wp2;go_quiet (fail);go_wp2;go_quiet (fail);go_wp2_with (first|(go_at_call 80;refine (dT 2 k _).mono ?_;rintro e w' ⟨rfl,rfl⟩));refine⟨rfl,?_⟩;rw[JH.o _ KH.o];exact⟨rfl,bH HG.o _⟩
        have VL:decide ((6:Int)<(n:Int)+1)=false:=by simp;omega
        have hL:=HL.o;rw[zN hn] at hL;have KH:=zh hL;have SU:n<=5:=by omega
        clear hL hn;go_wp2;go_quiet (fail);go_wp2;go_quiet (fail);go_wp2;go_roundg g
        case rel=>
         have e2:p+1+(n+1)=q+1:=by have:=HQ.o;omega
         refine⟨16*a+d,n+1,g,rfl,by have:=L9.o;have:=J9.o;omega,by omega,?_,rfl,?_,?_,?_,(bH HG.o _).set 1 _⟩
         . rw[KD.o]
           exact congrArg (Value.int IntKind.i32) (zaz a d FK Uw)
         . have:=HA.o
           rw[Nat.pow_succ];omega
         . rw[KH.o,e2]
         . rw[e2];exact (HP.o.drewN _).inc Hf
        case measure=>have:=ni.o;have:=J9.o;omega
      have kz1:¬ ((48:Int)<=(b:Int)):=by omega
      by_cases hn:n=6
      . have VL:decide ((6:Int)<(n:Int)+1)=true:=by simp;omega
        have hL:=HL.o;rw[zP hn] at hL;have KH:=zh hL;clear hL hn;go_wp2;go_quiet (fail);go_wp2;go_quiet (fail);go_wp2_with (first|(go_at_call 80;refine (dT 2 k _).mono ?_;rintro e w' ⟨rfl,rfl⟩));refine⟨rfl,?_⟩;rw[JH.o _ KH.o];exact⟨rfl,bH HG.o _⟩
      have VL:decide ((6:Int)<(n:Int)+1)=false:=by simp;omega
      have hL:=HL.o;rw[zN hn] at hL;have KH:=zh hL;have SU:n<=5:=by omega
      clear hL hn;go_wp2;go_quiet (fail);go_wp2;go_quiet (fail);go_wp2;go_roundg g
      case rel=>
       have e2:p+1+(n+1)=q+1:=by have:=HQ.o;omega
       refine⟨16*a+d,n+1,g,rfl,by have:=L9.o;have:=J9.o;omega,by omega,?_,rfl,?_,?_,?_,(bH HG.o _).set 1 _⟩
       . rw[KD.o]
         exact congrArg (Value.int IntKind.i32) (zaz a d FK Uw)
       . have:=HA.o
         rw[Nat.pow_succ];omega
       . rw[KH.o,e2]
       . rw[e2];exact (HP.o.drewN _).inc Hf
      case measure=>have:=ni.o;have:=J9.o;omega
   have hz:decide ((q:Int)<(s.size:Int))=false:=by simp;omega
   have hL:=HL.o;rw[zN (by simp;omega)] at hL;have KH:=zh hL;have tS:=Nf.o _ _ _ KH.o;rw[zN (by rintro⟨_,h,_⟩;have:=(rM h).1;omega)] at tS;have Ng:=zh tS;clear tS hL;by_cases Yj:n=0
   . have Om:((n:Int)==0)=true:=by simp;omega
     clear Yj;go_wp2;go_quiet (fail);go_wp2_with (first|(go_at_call 80;refine (dT 2 k _).mono ?_;rintro e w' ⟨rfl,rfl⟩));refine⟨rfl,?_⟩;rw[Ng.o];exact⟨rfl,bH HG.o _⟩
   have Om:((n:Int)==0)=false:=by simp;omega
   clear Yj;go_wp2;go_quiet (fail);go_wp2_with (first|(go_at_call 164;refine (sign_no bp s q 125 _ (by exact HP.o.drewN _) (λh=>absurd h Hf)).mono ?_;rintro e w2 ⟨rfl,Qy,qf⟩)|(go_at_call 80;refine (dT 2 k _).mono ?_;rintro e w' ⟨rfl,rfl⟩));refine⟨rfl,?_⟩;rw[Ng.o];exact⟨rfl,aD (bH HG.o _) qf⟩
theorem edge_any (bp:Nat) (s:ByteArray) (p:Nat) (w:World) (h:PS bp s p w)
 (YE:∀ w,PS bp s p w->Calls Tryz.prog 142 #[.pointer (some ⟨bp,0,none⟩)] w (Out bp s w (λc v _=>v=.int .i32 c) (bP s p))):
 Calls Tryz.prog 165 #[.pointer (some ⟨bp,0,none⟩)] w (Out bp s w (λc v _=>v=.int .i32 c) (lJ s p)):=by
 have H:=zh h;unfold lJ;cases hx:cD s p with
 | error e=>
  have hP:=kO bp s p w _ h hx;clear h;go_enter Tryz.func165,Tryz.ntmps165;go_wp2_with (first|(go_at_call 98;refine hP.mono ?_;rintro e w1 ⟨rfl,Hk⟩));exact⟨rfl,rfl,aF Hk _⟩
 | ok c=>
  have hP:=iF bp s p w _ h hx;clear h hx;by_cases hc:c= -1\/c=91\/c=93\/c=45
  . simp only[zP hc]
    have HS:=zh YE;clear YE
    rcases hc with rfl|rfl|rfl|rfl
    all_goals
     go_enter Tryz.func165,Tryz.ntmps165;go_wp2_with (first|(go_at_call 98;refine hP.mono ?_;rintro e w1 ⟨rfl,Hk⟩;have h1:=H.o.below Hk;obtain⟨d0,d1,f1⟩:=h1.cells;clear h1)|(go_at_call 80;refine (dT 2 p _).mono ?_;rintro e w' ⟨rfl,rfl⟩));exact⟨rfl,rfl,aF Hk _⟩
  simp only[zN hc]
  have e1:(c== -1)=false:=by simp;omega
  have e2:(c==91)=false:=by simp;omega
  have e3:(c==93)=false:=by simp;omega
  have e4:(c==45)=false:=by simp;omega
  have HS:=zh YE;clear YE hc;go_enter Tryz.func165,Tryz.ntmps165;go_wp2_with (first|(go_at_call 98;refine hP.mono ?_;rintro e w1 ⟨rfl,Hk⟩));have h1:=H.o.below Hk;refine (HS.o _ h1).mono ?_;intro r w2 hr;cases QP:bP s p with
  | error e=>
   rw[QP] at hr;obtain⟨rfl,qf⟩:=hr;refine⟨rfl,?_⟩;rw[QP];exact⟨rfl,aD (aF Hk _) qf⟩
  | ok cq=>
   rw[QP] at hr;obtain⟨v,rfl,rfl,Qy,qf⟩:=hr;go_wp2;go_ret;rw[QP];exact⟨_,rfl,rfl,Qy,aD (aF Hk _) qf⟩
end Go.Proofs.YtghpmhllpaheiaaGreatDoor
namespace Go.Proofs.YtghpmhllpaheiaaGreatDoor
open Go.RowKit Go.Lib
variable {w:World}
theorem Out.of {α:Type} {bp:Nat} {s:ByteArray} {w1:World} {V:α->Value->World->Prop} {x:Except jU (α×Nat)} {r:Ending} {w':World} (hg:w.grownBy w1 (some bp)) (h:Out bp s w1 V x r w'):Out bp s w V x r w':=by
 cases x with
 | error e=>exact⟨h.1,aD hg h.2⟩
 | ok aq=>obtain⟨v,h1,h2,h3,h4⟩:=h;exact⟨v,h1,h2,h3,aD hg h4⟩
abbrev escS:ByteArray:=⟨#[40,41,91,93,123,125,124,42,43,63,46,92,45,94]⟩
theorem PS.iterAt {bp:Nat} {s:ByteArray} {p:Nat} (h:PS bp s p w) {B:Nat} (hB:bp<B) (t:ByteArray) (n:Nat):PS bp s p (w.iterAt B t n):=
 ⟨(iterAt_other w B bp t n (by omega)).trans h.aQ,zba h.tabs λa ha=>World.cell?_of_block (w:=w) (iterAt_other w B a.block t n (by have:=h.glob;omega)),h.glob,h.size,h.le⟩
theorem zag {a:World} {row:Option Nat} (h:a.grownBy w row) {B:Nat} (hB:a.heap.size<=B) (t:ByteArray) (n:Nat):a.grownBy (w.iterAt B t n) row:=
 ⟨h.os,h.tape,h.output,by rw[iterAt_size];exact h.size,λk hk hr=>(iterAt_other w B k t n (by omega)).trans (h.block k hk hr)⟩
theorem esc_dec:∀ k:Fin 14,∀ e,uE[k.val]?=some e->Utf8.decode escS k.val=(e,1):=by decide+kernel
theorem zbJ (bp:Nat) (s:ByteArray) (p:Nat) (w:World) (h:PS bp s p w):
 Calls Tryz.prog 142 #[.pointer (some ⟨bp,0,none⟩)] w (Out bp s w (λc v _=>v=.int .i32 c) (bP s p)):=by
 have hT:=take_any bp s p w h;obtain⟨c0,c1,f1⟩:=h.cells;have hs:=h.size;clear h;cases hx:nZ s p with
 | error e=>
  rw[hx] at hT;have HC:zH (bP s p=.error e):=zh (by rw[bP,hx]);clear hx;go_enter Tryz.func142,Tryz.ntmps142;go_wp2_with (go_at_call 99;refine hT.mono ?_;rintro e w1 ⟨rfl,Qv⟩);refine⟨rfl,?_⟩;rw[HC.o];exact⟨rfl,Qv⟩
 | ok cq=>
  obtain⟨c,q⟩:=cq;rw[hx] at hT;by_cases Ke:c=92
  . subst Ke
    have XB:q<=s.size:=by
     obtain⟨hk,hq⟩:=zaw hx
     rcases uN hk with⟨_,h⟩|⟨h1,h2,h3⟩
     . omega
     rw[zN (by omega)] at hq;have:=(zbs s p h1 h2).2.1;omega
    by_cases Hf:q<s.size
    . have hz:(q:Int)<(s.size:Int):=by omega
      have tx:((q:Int)==(s.size:Int))=false:=by simp;omega
      have hw:=zW q (by omega);have hb:=fP s q Hf;have Hz:=mT s q;by_cases b1:cE s q=110
      . have HC:zH (bP s p=.ok (10,q+1)):=zh (by rw[bP,hx];simp only[zP Hf];rw[zP trivial,zP b1])
        clear hx;have Kg:(cE s q:Int)=110:=by omega
        rw[Kg] at hb;clear Kg;go_enter Tryz.func142,Tryz.ntmps142;go_wp2_with (go_at_call 99;refine hT.mono ?_;rintro e w1 ⟨v,rfl,rfl,qz,Qv⟩;obtain⟨d0,d1,g1⟩:=qz.cells;have qy:=zh qz;have Vm:=zh Qv;clear qz Qv);go_quiet (fail);go_wp2;go_quiet (fail);go_wp2;go_ret;rw[HC.o];exact⟨_,rfl,rfl,(qy.o.drewN _).inc Hf,(bH Vm.o _).set 1 _⟩
      by_cases b2:cE s q=116
      . have HC:zH (bP s p=.ok (9,q+1)):=zh (by rw[bP,hx];simp only[zP Hf];rw[zP trivial,zN b1,zP b2])
        clear hx;have Kg:(cE s q:Int)=116:=by omega
        rw[Kg] at hb;clear Kg;go_enter Tryz.func142,Tryz.ntmps142;go_wp2_with (go_at_call 99;refine hT.mono ?_;rintro e w1 ⟨v,rfl,rfl,qz,Qv⟩;obtain⟨d0,d1,g1⟩:=qz.cells;have qy:=zh qz;have Vm:=zh Qv;clear qz Qv);go_quiet (fail);go_wp2;go_quiet (fail);go_wp2;go_ret;rw[HC.o];exact⟨_,rfl,rfl,(qy.o.drewN _).inc Hf,(bH Vm.o _).set 1 _⟩
      by_cases b3:cE s q=114
      . have HC:zH (bP s p=.ok (13,q+1)):=zh (by rw[bP,hx];simp only[zP Hf];rw[zP trivial,zN b1,zN b2,zP b3])
        clear hx;have Kg:(cE s q:Int)=114:=by omega
        rw[Kg] at hb;clear Kg;go_enter Tryz.func142,Tryz.ntmps142;go_wp2_with (go_at_call 99;refine hT.mono ?_;rintro e w1 ⟨v,rfl,rfl,qz,Qv⟩;obtain⟨d0,d1,g1⟩:=qz.cells;have qy:=zh qz;have Vm:=zh Qv;clear qz Qv);go_quiet (fail);go_wp2;go_quiet (fail);go_wp2;go_ret;rw[HC.o];exact⟨_,rfl,rfl,(qy.o.drewN _).inc Hf,(bH Vm.o _).set 1 _⟩
      have n1:((cE s q:Int)==110)=false:=by simp;omega
      have n2:((cE s q:Int)==116)=false:=by simp;omega
      have n3:((cE s q:Int)==114)=false:=by simp;omega
      by_cases b4:cE s q=117
      . have HC:zH (bP s p=dZ s (q+1) p):=zh (by rw[bP,hx];simp only[zP Hf];rw[zP trivial,zN b1,zN b2,zN b3,zP b4])
        clear hx b1 b2 b3;have Kg:(cE s q:Int)=117:=by omega
        rw[Kg] at hb n1 n2 n3;clear Kg b4 n1 n2 n3;go_enter Tryz.func142,Tryz.ntmps142;go_wp2_with (go_at_call 99;refine hT.mono ?_;rintro e w1 ⟨v,rfl,rfl,qz,Qv⟩;obtain⟨d0,d1,g1⟩:=qz.cells;have qy:=zh qz;have Vm:=zh Qv;clear qz Qv);go_quiet (fail);go_wp2;go_quiet (fail);cases lu:dZ s (q+1) p with
        | error e=>
         have Yp:zH (bP s p=.error e):=zh (HC.o.trans lu);clear lu;go_wp2_with (go_at_call 167;refine (zcK bp s (q+1) p _ (by exact (qy.o.drewN _).inc Hf)).mono ?_;intro r w2 hr;rw[HC.o.symm.trans Yp.o] at hr;obtain⟨rfl,qf⟩:=hr);refine⟨rfl,?_⟩;rw[Yp.o];exact⟨rfl,aD ((bH Vm.o _).set 1 _) qf⟩
        | ok cq2=>
         have Yp:zH (bP s p=.ok cq2):=zh (HC.o.trans lu);clear lu;go_wp2_with (go_at_call 167;refine (zcK bp s (q+1) p _ (by exact (qy.o.drewN _).inc Hf)).mono ?_;intro r w2 hr;rw[HC.o.symm.trans Yp.o] at hr;obtain⟨v,rfl,rfl,Qy,qf⟩:=hr);go_ret;rw[Yp.o];exact⟨_,rfl,rfl,Qy,aD ((bH Vm.o _).set 1 _) qf⟩
      have n4:((cE s q:Int)==117)=false:=by simp;omega
      have HC:zH (bP s p=if uE.contains (cE s q) then .ok (cE s q,q+1) else .error (2,p)):=zh (by rw[bP,hx];simp only[zP Hf];rw[zP trivial,zN b1,zN b2,zN b3,zN b4]);clear hx b1 b2 b3 b4;go_enter Tryz.func142,Tryz.ntmps142;go_wp2_with (go_at_call 99;refine hT.mono ?_;rintro e w1 ⟨v,rfl,rfl,qz,Qv⟩;obtain⟨d0,d1,g1⟩:=qz.cells;have qy:=zh qz;have Vm:=zh Qv;clear qz Qv)
      have NG:∀ n,(((w1.drewN n).setCell ⟨bp,1,none⟩ (.int .i64 ((q:Int)+1))).iter escS 0).heap[w1.heap.size]?=some (.stringIter escS 0):=λn=>by
       have e:=World.iter_heap ((w1.drewN n).setCell ⟨bp,1,none⟩ (.int .i64 ((q:Int)+1))) escS 0;have e2:((w1.drewN n).setCell ⟨bp,1,none⟩ (.int .i64 ((q:Int)+1))).heap.size=w1.heap.size:=by simp[World.setCell]
       rw[e2] at e;exact e
      have HI:=zh NG;have VE:bp<w1.heap.size:=qy.o.lt;have wH:w.heap.size<=w1.heap.size:=Vm.o.size;clear NG;go_quiet (fail);go_wp2;go_quiet (fail);go_wp2;generalize cE s q=b at*;have Kg:IntKind.i32.wrap (b:Int)=b:=IntWalk.i32_in _ (by omega);go_loopg [7] 14 (λgh c wr=>∃ k:Nat,k+gh=14/\wr.heap[w1.heap.size]?=some (.stringIter escS k)/\(∀ i,i<k->uE[i]?≠some b)/\PS bp s (q+1) wr/\w.grownBy wr (some bp))
      case atStart=>
       have h2:=(qy.o.drewN (nq+nq)).inc Hf;refine⟨0,rfl,HI.o _,λi hi=>by omega,?_,?_⟩
       . exact ((qy.o.drewN _).inc Hf).below ((zBr _ _).alloc (zR _) _)
       . exact aD ((bH Vm.o _).set 1 _) (aF ((zBr _ _).alloc (zR _) _) _)
      case round=>
       obtain⟨k,hkg,hit,xd,Qu,QJ⟩:=hrel;have Wj:=zh hit;have jw:=zh Qu;have xg:=zh QJ;have K9:=zh xd;by_cases hk:k<14
       . obtain⟨e,he⟩:∃ e,uE[k]?=some e:=⟨uE[k]'(by simpa[uE] using hk),zLe _⟩
         have VJ:Utf8.decode escS k=(e,1):=esc_dec ⟨k,hk⟩ e he;have hn:=run_next_any_at (P:=Tryz.prog) wr w1.heap.size escS k 0 hit (show k<escS.size from hk);rw[VJ] at hn;have HE:=zh he;clear hit Qu QJ xd VJ he;by_cases Az:b=e
         . have ht:((b:Int)==(e:Int))=true:=by simp;omega
           have tI:=zh Az;clear Az;go_wp2;go_ret;rw[HC.o];have dt:uE.contains b=true:=by rw[tI.o];exact List.contains_iff_mem.2 (zM HE.o)
           rw[zP dt];exact⟨_,rfl,by rw[tI.o];rfl,PS.iterAt jw.o VE _ _,zag xg.o wH _ _⟩
         have ht:((b:Int)==(e:Int))=false:=by simp;omega
         have tI:=zh Az;clear Az;go_wp2;go_roundg (14-(k+1))
         case rel=>
          refine⟨k+1,by omega,iterAt_heap _ _ _ _ _ Wj.o,λi hi=> ?_,PS.iterAt jw.o VE _ _,zag xg.o wH _ _⟩;by_cases Eo:i=k
          . rw[Eo,HE.o];intro h;exact tI.o (zO h).symm
          . exact K9.o i (by omega)
         case measure=>omega
       have ZC:k=14:=by omega
       have hn:=run_next_end_at (P:=Tryz.prog) wr w1.heap.size escS k 0 hit (show ¬ k<escS.size from hk);clear hit Qu QJ xd;go_wp2_with (first|(go_at_call 80;refine (dT 2 p _).mono ?_;rintro e w' ⟨rfl,rfl⟩));refine⟨rfl,?_⟩;rw[HC.o];have dt:¬ uE.contains b=true:=λh=>by
        obtain⟨i,hi⟩:=List.getElem?_of_mem (List.contains_iff_mem.1 h);have Zp:i<14:=by
         have:=(List.getElem?_eq_some_iff.1 hi).1;simpa[uE] using this
        exact K9.o i (by omega) hi
       rw[zN dt];exact⟨rfl,xg.o⟩
    have tx:((q:Int)==(s.size:Int))=true:=by simp;omega
    have HC:zH (bP s p=.error (2,p)):=zh (by rw[bP,hx];simp only[zN Hf];rw[zP trivial]);clear hx;go_enter Tryz.func142,Tryz.ntmps142;go_wp2_with (go_at_call 99;refine hT.mono ?_;rintro e w1 ⟨v,rfl,rfl,qz,Qv⟩;obtain⟨d0,d1,g1⟩:=qz.cells;have qy:=zh qz;have Vm:=zh Qv;clear qz Qv);go_quiet (fail);go_wp2_with (first|(go_at_call 80;refine (dT 2 p _).mono ?_;rintro e w' ⟨rfl,rfl⟩));refine⟨rfl,?_⟩;rw[HC.o];exact⟨rfl,bH Vm.o _⟩
  have qo:(c != 92)=true:=by simp;omega
  have HC:zH (bP s p=.ok (c,q)):=zh (by rw[bP,hx];simp only[zN Ke]);clear hx Ke;go_enter Tryz.func142,Tryz.ntmps142;go_wp2_with (go_at_call 99;refine hT.mono ?_;rintro e w1 ⟨v,rfl,rfl,qz,Qv⟩);go_ret;rw[HC.o];exact⟨_,rfl,rfl,qz,Qv⟩
end Go.Proofs.YtghpmhllpaheiaaGreatDoor
namespace Go.Proofs.YtghpmhllpaheiaaGreatDoor
variable {s:ByteArray} {p q:Nat} {c:Int}
theorem zau (h:cD s p=.ok c): -1<=c/\c<=1114111/\(c≠ -1->p<s.size/\p<p+(Utf8.decode s p).2/\p+(Utf8.decode s p).2<=s.size):=by
 unfold cD at h;split at h
 . next he=>
   split at h
   . cases h
   next hd=>
   injection h with h
   obtain⟨x,k,e,hh⟩:=jA s p he hd;rw[e] at h ⊢;simp only at h ⊢;omega
 injection h with h
 subst h;exact⟨by omega,by omega,λh=>absurd rfl h⟩
theorem takeP_le (h:nZ s p=.ok (c,q)) (hp:p<=s.size): -1<=c/\c<=1114111/\p<=q/\q<=s.size/\(c≠ -1->p<q):=by
 obtain⟨h1,h2⟩:=zaw h;obtain⟨h3,h4,h5⟩:=zau h1;split at h2
 . next hc=>subst h2;exact⟨h3,h4,by omega,hp,λh=>absurd hc h⟩
 next hc=>have:=h5 hc;exact⟨h3,h4,by omega,by omega,λ_=>by omega⟩
theorem zab {k:Nat}:∀ (f p v d v' d' q:Nat),cX s k f p v d=.ok (v',d',q)->p<=q
 | 0,_,_,_,_,_,_,h=>by cases h
 | f+1,p,v,d,v',d',q,h=>by
  rw[cX] at h;split at h
  . split at h
    . cases h
    split at h
    . cases h
    have:=zab f _ _ _ _ _ _ h;omega
  injection h with h;cases h;exact zR _
theorem codedP_le {k:Nat} (h:dZ s p k=.ok (c,q)):0<=c/\c<=1114111/\p<q/\q<=s.size:=by
 unfold dZ at h;split at h
 . split at h
   . cases h
   next v d q' hl=>
   split at h
   . next hc=>
     injection h with h
     cases h;have h1:=zab _ _ _ _ _ _ _ hl;have h2:=(rM hc.2.1).1;omega
   cases h
 cases h
theorem zbI (h:bP s p=.ok (c,q)) (hp:p<=s.size): -1<=c/\c<=1114111/\p<=q/\q<=s.size/\(cD s p≠ .ok (-1)->0<=c/\p<q):=by
 unfold bP at h;split at h
 . cases h
 next c' q' ht=>
 obtain⟨h1,h2,h3,h4,h5⟩:=takeP_le ht hp;split at h
 . next hc=>
   have h5:=h5 (by omega);split at h
   . split at h
     . injection h with h;cases h;exact⟨by omega,by omega,by omega,by omega,λ_=>by omega⟩
     split at h
     . injection h with h;cases h;exact⟨by omega,by omega,by omega,by omega,λ_=>by omega⟩
     split at h
     . injection h with h;cases h;exact⟨by omega,by omega,by omega,by omega,λ_=>by omega⟩
     split at h
     . have:=codedP_le h;exact⟨by omega,by omega,by omega,by omega,λ_=>by omega⟩
     split at h
     . have:=mT s q';injection h with h;cases h;exact⟨by omega,by omega,by omega,by omega,λ_=>by omega⟩
     cases h
   cases h
 next hc=>
 injection h with h
 cases h;refine⟨h1,h2,h3,h4,λhn=> ?_⟩;have:c≠ -1:=λe=>hn (by rw[<-e];exact (zaw ht).1);have:=h5 this;omega
theorem zeD (h:lJ s p=.ok (c,q)) (hp:p<=s.size):0<=c/\c<=1114111/\p<q/\q<=s.size:=by
 unfold lJ at h;split at h
 . cases h
 next c' hk=>
 split at h
 . cases h
 next hc=>
 obtain⟨h1,h2,h3,h4,h5⟩:=zbI h hp;have:=h5 (by rw[hk];intro e;cases e;exact hc (.inl rfl));omega
theorem zas {x:Int×Int} (h:iB s p=.ok (x,q)) (hp:p<=s.size):0<=x.1/\x.1<=1114111/\0<=x.2/\x.2<=1114111/\x.1<=x.2/\p<q/\q<=s.size:=by
 unfold iB at h;split at h
 . cases h
 next lo q1 h1=>
 obtain⟨a1,a2,a3,a4⟩:=zeD h1 hp;split at h
 . cases h
 next c hc=>
 split at h
 . next CS=>
   obtain⟨b1,b2,b3⟩:=zau hc;have hq:q1+1<=s.size:=(b3 (by omega)).1;split at h
   . cases h
   next hi q2 h2=>
   obtain⟨c1,c2,c3,c4⟩:=zeD h2 hq;split at h
   . cases h
   injection h with h;cases h;simp only;omega
 injection h with h;cases h;simp only;omega
