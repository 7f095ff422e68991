/- Part of a proof. No condition. -/
import Derived.Laws.CopyOwn
import Derived.Test.YtghpmhllpaheiaaGreatDoorF40
set_option linter.unusedVariables false
set_option linter.unusedSimpArgs false
set_option maxRecDepth 100000
set_option maxHeartbeats 4000000
namespace Go.Proofs.YtghpmhllpaheiaaGreatDoor
open Go.RowKit Go.Lib
abbrev gX:ByteArray:=⟨#[98,101,121,111,110,100]⟩
abbrev goneS:ByteArray:=⟨#[103,111,110,101]⟩
theorem make_strs (n:Nat) (hn:n<=1000000) (w:World):(Instr.makeSlice 29 (.int .i64 (n:Int)) (.int .i64 (n:Int))).run Tryz.prog w=.ok (.slice (some ⟨w.heap.size,0,none⟩) n n) (w.alloc (.cells (List.replicate n (Value.string ⟨#[]⟩)).toArray 9)):=by
 obtain⟨i,h1,h2,h3,h4⟩:=info_parts (P:=Tryz.prog) (e:=9) (z:=.string ⟨#[]⟩) (size:=1) (bytes:=16) (by kernel_rfl);have h:=run_makeSlice w 29 9 i (.string ⟨#[]⟩) Tryz.underlying29 h1 h2 .i64 .i64 n n (by omega) (Int.le_refl _) (by rw[h3];simp;omega) (by rw[h4];omega) (by omega);have e:madeCells (Value.string ⟨#[]⟩).cells n=(List.replicate n (Value.string ⟨#[]⟩)).toArray:=by
  apply Array.ext';have e1:(madeCells (Value.string ⟨#[]⟩).cells n).toList=List.replicate n (.string ⟨#[]⟩):=toList_madeCells_one _ _;rw[e1]
 rw[h,h3,Nat.mul_one,Int.toNat_natCast,e]
def zbn (w:World) (g:Nat) (sT:List ByteArray):Prop:=w.heap[g]?=some (.cells (sT.map Value.string++[Value.string gX,Value.string gX]).toArray 9 (0,0))
theorem zb8 {w:World} {g:Nat} {sT:List ByteArray} (h:zbn w g sT) (hl:sT.length<=900000):w.ownsRow 0 9 1 (.slice (some ⟨g,0,none⟩) sT.length (sT.length+2)) sT.length (sT.map Value.string):=by
 refine⟨by simp,.inr ⟨g,sT.length+2,_,rfl,zZ _,h,by omega,by unfold maxLen;omega,by simp,?_⟩⟩;rw[Nat.mul_one];simp
theorem zfz (sT:List ByteArray):((splice (List.replicate (sT.length+2) (Value.string ⟨#[]⟩)) 0 (sT.map Value.string)).set sT.length (Value.string gX)).set (sT.length+1) (Value.string gX)=sT.map Value.string++[Value.string gX,Value.string gX]:=by
 have e:splice (List.replicate (sT.length+2) (Value.string ⟨#[]⟩)) 0 (sT.map Value.string)=sT.map Value.string++[Value.string ⟨#[]⟩,Value.string ⟨#[]⟩]:=by
  unfold splice;simp[List.drop_replicate]
 rw[e];rw[List.set_append_right _ _ (by simp),List.set_append_right _ _ (by simp)];simp
theorem zfA (sT:List ByteArray) (w:World) (v:Value) (Hb:w.ownsRow 0 9 1 v sT.length (sT.map Value.string)) (hl:sT.length<=900000):
 Calls Tryz.prog 102 #[v] w λe w'=>∃ g,e=.returned (.slice (some ⟨g,0,none⟩) sT.length (sT.length+2))/\zbn w' g sT/\w.heap.size<=g/\Below w.heap.size w w':=by
 have vm:=make_strs (sT.length+2) (by omega) w;rw[show ((sT.length+2:Nat):Int)=(sT.length:Int)+2 by omega] at vm;obtain⟨zs,DV⟩:=zE (List.replicate (sT.length+2) (Value.string ⟨#[]⟩));rw[<-DV] at vm;have wM:zs.length=sT.length+2:=by rw[DV];simp
 have QO:IntKind.i64.wrap ((sT.length:Int)+2)=(sT.length:Int)+2:=zIn _ (by omega);have Xe:IntKind.i64.wrap ((sT.length:Int)+1)=(sT.length:Int)+1:=zIn _ (by omega);obtain⟨ao,cap,hv⟩:=bM Hb;obtain⟨g,hg⟩:=zE (w.heap.size);obtain⟨cs,YL⟩:=zE (sT.map Value.string);have iq:0<cs.length->∃ ad,ao=some ad/\∀ j u,cs[j]?=some u->(w.alloc (.cells zs.toArray 9)).cell? (ad.add j)=some u:=λh0=>by
  rcases bD Hb with⟨e,hn⟩|⟨g2,Vr,e,_⟩
  . rw[YL] at h0;simp at h0;omega
  rw[e] at hv
  cases hv;refine⟨_,rfl,λj u hu=> ?_⟩;have YA:(⟨g2,0,none⟩:Addr).add j=⟨g2,j,none⟩:=by unfold Addr.add;split<;>simp_all
  rw[YA];rw[e] at Hb;exact (aL ((zBr w.heap.size w).alloc (zR _) _) _ (Hb.lt g2 rfl).2).trans (aE Hb j u (by rw[<-YL];exact hu))
 have Hg:cs.length=sT.length:=by rw[YL];simp
 have VM:∀ u∈cs,u.oneCell'=true:=λu hu=>by
  rw[YL] at hu;obtain⟨x,_,rfl⟩:=List.mem_map.1 hu;rfl
 subst hv;have HS:=zh (zAi iq (zAi Hg VM));have HC:=zh YL;have IW:=zh (zAi DV wM);have Re:=zh hg;clear Hb iq Hg VM YL DV wM hg;go_enter Tryz.func102,Tryz.ntmps102
 go_upto_region 4 with (refine wpList_copy_splice rfl (.tmp 10) (.tmp 11) 29 29 rfl 9 Tryz.underlying29 (by kernel_rfl) _ _ _ _ _ _ rfl rfl w.heap.size 0 zs 9 (bR _ _ _ rfl) cs (by rw[HS.o.2.1];exact (Nat.min_eq_left (by omega)).symm) (λh0=>⟨rfl,HS.o.1 h0⟩) (by have:=HS.o.2.1;have:=IW.o.2;omega) HS.o.2.2 w.heap.size w ((zBr w.heap.size w).alloc (zR _) _) (zR _) ?_;intro w1 Qv Hk)
 replace Qv:=zh (show w1.heap[w.heap.size]?=some (.cells (splice zs 0 cs).toArray 9 (0,0)) from Qv);rw[<-Re.o] at Qv ⊢;have hz:(splice zs 0 cs).length=sT.length+2:=by
  rw[length_splice _ _ _ (by have:=HS.o.2.1;have:=IW.o.2;omega)];exact IW.o.2
 have h1:=Qv.o;have c0:=aB _ _ sT.length _ _ _ h1;have c1:=aB _ _ (sT.length+1) _ _ _ h1;have f0:=aM _ _ sT.length _ _ h1;have f1:=aM _ _ (sT.length+1) _ _ h1;rw[zLa,zLe (by omega)] at c0 c1;obtain⟨x0,y0⟩:∃ x,w1.cell? ⟨g,sT.length,none⟩=some x:=⟨_,c0⟩;obtain⟨x1,y1⟩:∃ x,w1.cell? ⟨g,sT.length+1,none⟩=some x:=⟨_,c1⟩;have z0:(sT.length:Int)<(sT.length:Int)+2:=by omega
 have Kb:=zh Hk;clear h1 Hk c0 c1 hz;go_wp2_with (fail);go_ret;have h2:=aC _ g sT.length (.string gX) _ _ _ Qv.o;have h3:=aC _ g (sT.length+1) (.string gX) _ _ _ h2;have hg:=Re.o;refine⟨g,rfl,?_,by omega,?_⟩
 . unfold zbn
   rw[h3,<-zfz sT,<-HC.o,<-IW.o.1];simp
 exact (Kb.o.setCell (p:=(⟨g,sT.length,none⟩:Addr)) (by show w.heap.size<=g;omega) _).setCell (p:=(⟨g,sT.length+1,none⟩:Addr)) (by show w.heap.size<=g;omega) _
theorem zdv (sT:List ByteArray) (w:World) (g:Nat) (v:Value) (hg:zbn w g sT) (Hb:w.ownsRow 0 9 1 v sT.length (sT.map Value.string)) (hl:sT.length<=900000):
 Calls Tryz.prog 103 #[.slice (some ⟨g,0,none⟩) sT.length (sT.length+2),v] w λe w'=>e=.returned (.bool true)/\w.grownBy w' (some g)/\w'.heap.size=w.heap.size:=by
 have QO:IntKind.i64.wrap ((sT.length:Int)+2)=(sT.length:Int)+2:=zIn _ (by omega);have Xe:IntKind.i64.wrap ((sT.length:Int)+1)=(sT.length:Int)+1:=zIn _ (by omega);obtain⟨ao,cap,hv⟩:=bM Hb;have hc:∀ (i:Nat) (s:ByteArray),sT[i]?=some s->w.cell? ⟨g,i,none⟩=some (.string s)/\∃ g2,ao=some ⟨g2,0,none⟩/\g2<w.heap.size/\w.cell? ⟨g2,i,none⟩=some (.string s):=λi s hs=>by
  have hi:=(List.getElem?_eq_some_iff.1 hs).1;refine⟨aE (zb8 hg hl) i _ (by rw[List.getElem?_map,hs];rfl),?_⟩
  rcases bD Hb with⟨e,hn⟩|⟨g2,Vr,e,_,Hf⟩
  . omega
  rw[e] at hv
  cases hv;rw[e] at Hb;exact⟨g2,rfl,Hf,aE Hb i _ (by rw[List.getElem?_map,hs];rfl)⟩
 have c0:=aB _ _ sT.length _ _ _ hg;have c1:=aB _ _ (sT.length+1) _ _ _ hg;have e0:(sT.map Value.string++[Value.string gX,Value.string gX])[sT.length]?=some (.string gX):=by rw[zGr (by simp)];simp
 have e1:(sT.map Value.string++[Value.string gX,Value.string gX])[sT.length+1]?=some (.string gX):=by rw[zGr (by simp)];simp
 rw[zLa,e0] at c0;rw[zLa,e1] at c1;have lg:=aA hg;have z0:(sT.length:Int)<(sT.length:Int)+2:=by omega
 subst hv;have HC:=zh hc;have HG:=zh hg;have HL:=zh hl;clear Hb hc hg e0 e1;go_enter Tryz.func103,Tryz.ntmps103;go_wp2_with (fail);clear c0 c1;go_loopw [7,8] (λs7 s8 wr=>∃ i:Nat,s7=.bool true/\s8=.int .i64 i/\i<=sT.length/\Below w.heap.size w wr/\wr.heap.size=w.heap.size) (λ_ s8 _=>sT.length-(RowKit.intOf s8).toNat)
 case atStart=>exact⟨0,rfl,rfl,by omega,zBr _ _,rfl⟩
 case round=>
  obtain⟨i,rfl,rfl,hi,hb,hz⟩:=hrel;have HB:=zh hb;have HZ:=zh hz;clear hb hz;by_cases Hf:i<sT.length
  . have hz:(i:Int)<(sT.length:Int):=by omega
    have K6:(i:Int)<(sT.length:Int)+2:=by omega
    obtain⟨s,hs⟩:=zG sT i Hf;obtain⟨ca,g2,rfl,l2,cb⟩:=HC.o i s hs;have ca':=(aL HB.o ⟨g,i,none⟩ lg).trans ca;have cb':=(aL HB.o ⟨g2,i,none⟩ l2).trans cb;have ui:=zW i (by have:=HL.o;omega);clear hs ca cb;go_wp2_with (fail);go_quiet (fail);go_wp2_with (fail);go_roundw
    case rel=>exact⟨i+1,rfl,by go_num,by omega,aV HB.o _,HZ.o⟩
    case measure=>(simp[zI]<;>omega)
  have hz:¬ (i:Int)<(sT.length:Int):=by omega
  obtain⟨u,hu⟩:=zE (wr);have Hl:∃ xs:Array Value,wr.heap[g]?=some (.cells xs 9 (0,0))/\xs.size=sT.length+2:=⟨_,(HB.o.block g lg).trans HG.o,by simp⟩;have Hq:=zh Hl;have xg:=zh (aF HB.o (some g));clear Hl;go_wp2_with (fail);go_loopw [9] (λs9 wr2=>∃ (j:Nat) (xs:Array Value),s9=.int .i64 j/\j<=sT.length+2/\wr2.heap[g]?=some (.cells xs 9 (0,0))/\xs.size=sT.length+2/\w.grownBy wr2 (some g)/\wr2.heap.size=w.heap.size) (λs9 _=>sT.length+2-(RowKit.intOf s9).toNat)
  case atStart=>
   obtain⟨xs,h1,h2⟩:=Hq.o;exact⟨0,xs,rfl,by omega,h1,h2,xg.o,HZ.o⟩
  case round=>
   obtain⟨j,xs,rfl,hj,h1,h2,h3,h4⟩:=hrel;have H1:=zh (zAi h1 (zAi h2 (zAi h3 h4)));by_cases UK:j<sT.length+2
   . have K6:(j:Int)<(sT.length:Int)+2:=by omega
     have cj:=aB _ _ j _ _ _ h1;have fj:=aM _ _ j _ _ h1;rw[Array.getElem?_eq_getElem (by omega)] at cj;obtain⟨vj,hvj⟩:∃ v,wr.cell? ⟨g,j,none⟩=some v:=⟨_,cj⟩;clear cj;have Lp:=zW j (by have:=HL.o;omega);clear h1 h2 h3 h4;go_wp2_with (fail);go_roundw
     case rel=>exact⟨j+1,_,by go_num,by omega,aC _ g j (.string goneS) _ _ _ H1.o.1,by rw[Array.size_setIfInBounds];exact H1.o.2.1,aD H1.o.2.2.1 (eO _ g j _),by rw[<-H1.o.2.2.2];simp[World.setCell]⟩
     case measure=>(simp[zI]<;>omega)
   have K6:¬ (j:Int)<(sT.length:Int)+2:=by omega
   clear h1 h2 h3 h4;go_wp2_with (fail);go_ret;exact⟨rfl,H1.o.2.2⟩
