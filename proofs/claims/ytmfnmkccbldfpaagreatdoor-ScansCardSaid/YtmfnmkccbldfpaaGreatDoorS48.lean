/- Part of a proof. No condition. -/
import Derived.Test.YtmfnmkccbldfpaaGreatDoorS44
import Derived.Test.YtmfnmkccbldfpaaGreatDoorS46
import Derived.Test.YtmfnmkccbldfpaaGreatDoorS47
import Derived.Test.YtmfnmkccbldfpaaGreatDoorS26
set_option linter.unusedVariables false
set_option linter.unusedSimpArgs false
set_option maxRecDepth 100000
set_option maxHeartbeats 4000000
namespace Go.Proofs.YtmfnmkccbldfpaaGreatDoor
open Go.RowKit Go.Lib Tryz
def oO (w w':ω):Prop:=w.heap.size<=w'.heap.size/\∀ (g:Nat) (cs:Array Value) (t:TypeId),(t=64\/t=74)->w.h g cs t->w'.h g cs t
theorem oO.of_below {w w':ω} (h:w.u w'):oO w w':=⟨h.size,λg cs t _ hg=>(h.block g (aA hg)).trans hg⟩
theorem oO.trans {a b c:ω} (h:oO a b) (k:oO b c):oO a c:=⟨zT h.1 k.1,λg cs t ht hg=>k.2 g cs t ht (h.2 g cs t ht hg)⟩
structure StJ (s xb yb rb:Nat) (J:World->Prop):Prop where
 mono:∀ w w',J w->w.u w'->J w'
 blk:∀ w,J w->w.h s #[aF xb,aF yb,bH rb] 69
 gl:∀ w,J w->Gl w
def NxC (xb:Nat) (J J':World->Prop) (t:Tk) (k:Nat):Prop:=∀ w,J w->∃ bs,w.h xb #[aF bs] 73/\Γ 22 #[aF bs] w λe w'=>e=ρ (ϕ #[tkV t,fN k])/\J' w'/\oO w w'
def NrC (rb:Nat) (J J':World->Prop) (t:Tk) (k:Nat):Prop:=∀ w,J w->Γ 23 #[bH rb] w λe w'=>e=ρ (ϕ #[tkV t,ι k])/\J' w'/\oO w w'
theorem told_k (k:Nat) (w:ω) (hG:Gl w):Γ 19 #[fN k,ι k,ι (-1),ι (-1)] w λr w'=>r=ρ (φ true)/\w.u w':=by
 by_cases h:k=0
 . subst h
   exact uB (e:=0) (i:=0) (k:=0) .none hG.err hG.pos (.inl rfl)
 rw[jE h]
 exact uB (.num k h) hG.err hG.pos (.inr ⟨rfl,rfl⟩)
theorem snext_any {s xb yb rb k:Nat} {J0 J1 J2 J3:World->Prop} {t:Tk} (h0:StJ s xb yb rb J0) (h1:StJ s xb yb rb J1) (h2:StJ s xb yb rb J2) (h3:StJ s xb yb rb J3) (cx:NxC xb J0 J1 t k) (cy:NxC yb J1 J2 t k) (cr:NrC rb J2 J3 t k) (w:ω) (hw:J0 w):
 Γ 12 #[bH s] w λe w'=>e=ρ (φ true)/\J3 w':=by
 have hb:=h0.blk w hw;obtain⟨bs,hx,hcx⟩:=cx w hw;have c0:=zq 0 hb;have d0:=zq 0 hx;obtain⟨rU,pos,line,col,text⟩:=t;clear hb hx hw;unfold bH;go_in;go_upto_region 2 with (go_at_call 22;refine hcx.mono ?_;rintro e w1 ⟨rfl,Ds,Yr⟩;unfold tkV)
 obtain⟨w2,QG⟩:=zE (κ w1 (Ω #[ι rU,ι pos,ι line,ι col,γ text] 64));have Hm:w1.u w2:=by rw[QG];exact iM.alloc bR _
 have CN:w2.h w1.t #[ι rU,ι pos,ι line,ι col,γ text] 64:=by rw[QG];exact bA _ _ _ rfl
 rw[<-QG];have Pf:=h1.mono _ _ Ds Hm;have hb:=h1.blk _ Pf;obtain⟨bs2,hy,hcy⟩:=cy w2 Pf;have c1:=zq 1 hb;have e0:=zq 0 hy;clear QG Hm Pf hb hy c0 d0;generalize w1.heap.size=ka at*;go_upto_region 3 with (go_at_call 22;refine hcy.mono ?_;rintro e w3 ⟨rfl,Iv,Pg⟩;unfold tkV)
 obtain⟨w4,fh⟩:=zE (κ w3 (Ω #[ι rU,ι pos,ι line,ι col,γ text] 64));have qu:w3.u w4:=by rw[fh];exact iM.alloc bR _
 have hy4:w4.h w3.t #[ι rU,ι pos,ι line,ι col,γ text] 64:=by rw[fh];exact bA _ _ _ rfl
 have TN:=(oO.of_below qu).2 _ _ _ (.inl rfl) (Pg.2 _ _ _ (.inl rfl) CN);rw[<-fh];have IL:=h2.mono _ _ Iv qu;have hb:=h2.blk _ IL;have N5:=zh (cr w4 IL);have c2:=zq 2 hb;unfold bH at c2 N5;clear fh qu IL hb c1 e0;generalize w3.heap.size=kb at*;go_upto_region 4 with (go_at_call 23;refine N5.o.mono ?_;rintro e w5 ⟨rfl,hj5,pf⟩;unfold tkV)
 obtain⟨w6,fq⟩:=zE (κ w5 (Ω #[ι rU,ι pos,ι line,ι col,γ text] 74));have QT:w5.u w6:=by rw[fq];exact iM.alloc bR _
 have T5:w6.h w5.t #[ι rU,ι pos,ι line,ι col,γ text] 74:=by rw[fq];exact bA _ _ _ rfl
 have Ph:=pf.trans (oO.of_below QT);have Eu:=Ph.2 _ _ _ (.inl rfl) TN;have La:=Ph.2 _ _ _ (.inl rfl) hy4;rw[<-fq];have HJ6:=zh (h3.mono _ _ hj5 QT);have Eg:=zh (λW (hW:w6.u W)=>told_k k W ((h3.gl _ HJ6.o).later hW));have VG:=zh (λW=>zdS ⟨rU,pos,line,col,text⟩ W);clear fq QT Ph c2 N5;generalize w5.heap.size=kr at*;go_upto_region 5 with (go_at_call 19;refine (Eg.o _ iM).mono ?_;rintro e w7 ⟨rfl,yv⟩)
 go_upto_region 6 with (go_at_call 19;refine (Eg.o _ yv).mono ?_;rintro e w8 ⟨rfl,Yf⟩;have BJ:=zh (bI yv Yf yv.size))
 have J8:∀ W,w6.u W->∀ (g:Nat) (ty:TypeId),w6.h g #[ι rU,ι pos,ι line,ι col,γ text] ty->g<W.t/\W.h g #[ι rU,ι pos,ι line,ι col,γ text] ty:=λW hW g ty hg=>⟨zLd (aA hg) hW.size,(hW.block g (aA hg)).trans hg⟩;unfold tkV at VG;obtain⟨la,qa⟩:=J8 w8 BJ.o ka _ Eu;obtain⟨lr,qr⟩:=J8 w8 BJ.o kr _ T5;have p0:=zq 0 qa
 have p1:=zq 1 qa;have p2:=zq 2 qa;have p3:=zq 3 qa;have p4:=zq 4 qa;have r0:=zq 0 qr;have r1:=zq 1 qr;have r2:=zq 2 qr;have r3:=zq 3 qr;have r4:=zq 4 qr;go_upto_region 7 with (go_at_call 24;refine (VG.o _).mono ?_;rintro e w9 ⟨rfl,XN⟩;have QH:=zh (bI BJ.o XN BJ.o.size))
 obtain⟨la,qa⟩:=J8 w9 QH.o kb _ La;obtain⟨lr,qr⟩:=J8 w9 QH.o kr _ T5;have p0:=zq 0 qa;have p1:=zq 1 qa;have p2:=zq 2 qa;have p3:=zq 3 qa;have p4:=zq 4 qa;have r0:=zq 0 qr;have r1:=zq 1 qr;have r2:=zq 2 qr;have r3:=zq 3 qr;have r4:=zq 4 qr
 go_wp2_with (go_at_call 24;refine (VG.o _).mono ?_;rintro e Ki ⟨rfl,My⟩;have wu:=zh (bI QH.o My QH.o.size));go_ret;exact⟨rfl,h3.mono _ _ HJ6.o wu.o⟩
