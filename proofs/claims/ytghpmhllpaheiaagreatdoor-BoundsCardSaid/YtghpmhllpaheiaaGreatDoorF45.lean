/- Part of a proof. No condition. -/
import Derived.Test.YtghpmhllpaheiaaGreatDoorF23
import Derived.Test.YtghpmhllpaheiaaGreatDoorF44
set_option linter.unusedVariables false
set_option linter.unusedSimpArgs false
set_option maxRecDepth 100000
set_option maxHeartbeats 40000000
namespace Go.Proofs.YtghpmhllpaheiaaGreatDoor
open Go.RowKit Go.Lib
def LayRO (R:oB) (w:World) (e:Ending) (w':World):Prop:=Below w.heap.size w w'/\match R with
 | .ok _ L=>∃ bl,e=.returned (.tuple #[aK bl,.nilIface])/\rA w' bl L
 | .err er i k=>∃ b,e=.returned (.tuple #[.pointer none,.iface 82 (.pointer (some ⟨b,0,none⟩))])/\zbS w' b er i k/\w.heap.size<=b
theorem zcD (v:Value) (w:World):(Instr.typeAssert (.iface 51 v) 20 51 true).run Tryz.prog w=.ok (.tuple #[v,.bool true]) w:=by kernel_rfl
theorem lay_catch (C ba bb:Nat) (x y:Value) (k:Int) (w:World) (hc:w.cell? ⟨C,0,none⟩=some (.int .i64 k)) (ha:w.cell? ⟨ba,0,none⟩=some x) (hb:w.cell? ⟨bb,0,none⟩=some y) (fa:w.frozen? ⟨ba,0,none⟩=false) (fb:w.frozen? ⟨bb,0,none⟩=false) (Xz:ba≠bb):
 CallsD Tryz.prog 55 #[.pointer (some ⟨C,0,none⟩),.pointer (some ⟨ba,0,none⟩),.pointer (some ⟨bb,0,none⟩)] (.panicking [{v:=.iface 51 (.int .i64 6),recovered:=false}]) w λr u' w'=>
  r=.returned (.tuple #[])/\u'=.panicking [{v:=.iface 51 (.int .i64 6),recovered:=true}]/\w'=((w.setCell ⟨ba,0,none⟩ (.pointer none)).setCell ⟨bb,0,none⟩ (.iface 82 (.pointer (some ⟨w.heap.size,0,none⟩)))).alloc (.cells #[.int .i64 6,.int .i64 k,.int .i64 0] 86):=by
 refine callsD_of_wpS Tryz.func55 rfl λc₀ cs hu=> ?_;apply wpS_seq;apply wpS_region;generalize hQ:Exit.thenS _ _=Q;simp[wpOpsS,go_sem,recoverD,hu,Tryz.ntmps55];subst hQ;simp only[Exit.thenS];refine wpS_of_wp (wp_mono (Q:=λen a' w'=>en=.normal/\a'.defers=[]/\w'=((w.setCell ⟨ba,0,none⟩ (.pointer none)).setCell ⟨bb,0,none⟩ (.iface 82 (.pointer (some ⟨w.heap.size,0,none⟩)))).alloc (.cells #[.int .i64 6,.int .i64 k,.int .i64 0] 86)) ?_ ?_)
 . change Code.wp _ _ _ {tmps:=#[.pointer (some ⟨C,0,none⟩),.pointer (some ⟨ba,0,none⟩),.pointer (some ⟨bb,0,none⟩),undef,undef,undef,.iface 51 (.int .i64 6),undef,undef,undef,undef,undef,undef,undef,undef,undef,undef],defers:=[]} w
   have Ex:=zcD (.int .i64 6);have la:=rQ ha;have lb:=rQ hb;go_wp2
   all_goals trivial
 rintro en a' w' ⟨rfl,hd,h⟩
 cases c₀;simp_all[bodyPostS,results,Tryz.results55]
theorem zaG (w:World) (ba bb:Nat) (F:Array Value) (ta tb:TypeId) {xa xb:Value} (ha:w.heap[ba]?=some (.cells #[xa] ta (0,0))) (hb:w.heap[bb]?=some (.cells #[xb] tb (0,0))) (Xz:ba≠bb):
 let w':=((w.setCell ⟨ba,0,none⟩ (.pointer none)).setCell ⟨bb,0,none⟩ (.iface 82 (.pointer (some ⟨w.heap.size,0,none⟩)))).alloc (.cells F 86)
 (w'.heap[ba]?=some (.cells #[.pointer none] ta (0,0))/\w'.heap[bb]?=some (.cells #[.iface 82 (.pointer (some ⟨w.heap.size,0,none⟩))] tb (0,0))/\w'.heap[w.heap.size]?=some (.cells F 86 (0,0)))/\
 (∀ B,B<=ba->B<=bb->Below B w w'):=by
 intro w';have la:=aA ha;have lb:=aA hb;have h1:((w.setCell ⟨ba,0,none⟩ (.pointer none)).setCell ⟨bb,0,none⟩ (.iface 82 (.pointer (some ⟨w.heap.size,0,none⟩)))).heap[ba]?=some (.cells #[.pointer none] ta (0,0)):=by
  rw[aG _ _ _ _ (by simpa using Xz),aC w ba 0 (.pointer none) _ _ _ ha];rfl
 have h2:((w.setCell ⟨ba,0,none⟩ (.pointer none)).setCell ⟨bb,0,none⟩ (.iface 82 (.pointer (some ⟨w.heap.size,0,none⟩)))).heap[bb]?=some (.cells #[.iface 82 (.pointer (some ⟨w.heap.size,0,none⟩))] tb (0,0)):=by
  rw[aC _ bb 0 _ _ _ _ ((aG _ _ _ _ (by simpa using Xz.symm)).trans hb)];rfl
 refine⟨⟨?_,?_,?_⟩,λB hA hB=> ?_⟩
 . rw[aN,zN (by simp;omega)];exact h1
 . rw[aN,zN (by simp;omega)];exact h2
 . rw[aN,zP (by simp)]
 exact (((zBr B w).setCell hA _).setCell hB _).alloc (by simp;omega) _
structure OutV (f:Nat) (sT:List ByteArray) (R:oB) (w:World) (A bl bm:Nat) (i:Nat) (s:bA) (L:gK) (Hc:List Nat) (tag:Nat->Nat) (wr:World):Prop where
 lay:gZ wr tag bl bm Hc s L.rU L.fO
 upd:dL (λ_=>0) tag w wr
 ptr:wr.heap[A]?=some (.cells #[aK bl] 88 (0,0))/\tag A=0
 err:wr.heap[A+1]?=some (.cells #[.nilIface] 34 (0,0))/\tag (A+1)=0
 aQ:(∃ x,wr.heap[A+1+1]?=some (.cells #[.int .i64 x] 3 (0,0)))/\tag (A+1+1)=0
 rest:pY f sT R i s L
 cL:L.cL=s.cL
 lr:L.rU.length=s.cL.length
 lf:L.fO.length=s.cL.length
 lb:s.bE.length=s.cL.length
 pos:0<s.cL.length
 pl:sR s
 fok:∀ x∈L.fO,x.Ok
theorem OutV.own {f:Nat} {sT:List ByteArray} {R:oB} {w:World} {A bl bm i:Nat} {s:bA} {L:gK} {Hc:List Nat} {tag:Nat->Nat} {wr:World} (h:OutV f sT R w A bl bm i s L Hc tag wr):Own w A bl tag wr:=⟨h.upd,h.ptr,h.err,h.aQ⟩
theorem layAll_v (f:Nat) (sT:List ByteArray) (R:oB) (w:World) (g cap:Nat) (Hb:w.ownsRow 0 9 1 (.slice (some ⟨g,0,none⟩) sT.length cap) sT.length (sT.map Value.string)) (Qc:∀ s∈sT,s.size<=60) (hn:sT.length<=8) (hT:Tabs w) (hg:mN<=w.heap.size) (hE:ErrT w)
 (hV:pY f sT R 0 jF jG):Calls Tryz.prog 33 #[.slice (some ⟨g,0,none⟩) sT.length cap] w (LayRO R w):=by
 have Kp:=zfD;have TJ:=make_set;have ZI:=make_knot
 go_enter_defers Tryz.func33,Tryz.ntmps33
 go_upto_region 3 with (fail)
 have Hk:=(((zBr w.heap.size w).alloc (zR _) (.cells #[.pointer none] 88)).alloc (by simp) (.cells #[.nilIface] 34)).alloc (by simp;omega) (.cells #[.int .i64 0] 3);obtain⟨A,hA⟩:=zE (w.heap.size);rw[<-hA];have z1:(((w.alloc (.cells #[.pointer none] 88)).alloc (.cells #[.nilIface] 34)).alloc (.cells #[.int .i64 0] 3)).heap.size=A+3:=by simp[hA]
 have zA:(((w.alloc (.cells #[.pointer none] 88)).alloc (.cells #[.nilIface] 34)).alloc (.cells #[.int .i64 0] 3)).heap[A]?=some (.cells #[.pointer none] 88 (0,0)):=by
  rw[hA,aN,zN (by simp;omega),aN,zN (by simp),aN,zP rfl]
 have zB:(((w.alloc (.cells #[.pointer none] 88)).alloc (.cells #[.nilIface] 34)).alloc (.cells #[.int .i64 0] 3)).heap[A+1]?=some (.cells #[.nilIface] 34 (0,0)):=by
  rw[hA,aN,zN (by simp),aN,zP (by simp)]
 have zC:(((w.alloc (.cells #[.pointer none] 88)).alloc (.cells #[.nilIface] 34)).alloc (.cells #[.int .i64 0] 3)).heap[A+1+1]?=some (.cells #[.int .i64 0] 3 (0,0)):=by
  rw[hA,aN,zP (by simp)]
 have Kb:=zh Hk;have HA:=zh hA;clear hA Hk;generalize ((w.alloc (.cells #[.pointer none] 88)).alloc (.cells #[.nilIface] 34)).alloc (.cells #[.int .i64 0] 3)=w1 at*;have a0:=aB _ _ 0 _ _ _ zA;have af:=aM _ _ 0 _ _ zA;have al:=aA zA;have al1:A<w1.heap.size+1:=by omega
 have al2:A<w1.heap.size+1+1:=by omega
 have Yz:A<w1.heap.size+1+1+1:=by omega
 simp only[zLa,zLb] at a0;have HZ:=zh (zAi z1 (zAi zA (zAi zB zC)));have qk:=zh Hb;have HV:=zh hV;have HE:=zh hE;have Q8:=zh (zAi Qc (zAi hT (zAi hg trivial)));clear z1 zA zB zC Hb hV hE Qc hT hg;go_cut [] from 19 to 23 (λwx=>∃ bl gc gf gr,L3 w1 wx A bl gc gf gr)
 case first=>
  refine wp_region_noPanic ?_
  go_region
  all_goals
   refine NoPanic.normal ?_;go_wp2_with (fail);go_meet
   case rel=>exact⟨_,_,_,_,L3.of HZ.o.2.1 (by simp<;>omega)⟩
 case rest=>
  obtain⟨bl,gc,gf,gr,h3⟩:=hcut;have H3:=zh h3;have a0:=aB _ _ 0 _ _ _ h3.ptr;have al:=aA h3.ptr;simp only[zLa,zLb] at a0;clear h3;go_upto_region 4 with (fail);go_cut [5] from 24 to 27 (λs5 wx=>∃ bm tag,s5=aK bm/\L4 w wx A bl bm tag)
  case first=>
   refine wp_region_noPanic ?_
   go_region
   all_goals
    refine NoPanic.normal ?_;go_wp2_with (fail);go_meet
    case rel=>
     obtain⟨tag,h4⟩:=L4.of Kb.o HA.o HZ.o.1 HZ.o.2.2.1 HZ.o.2.2.2 H3.o;exact⟨_,tag,rfl,h4⟩
  case rest=>
   obtain⟨bm,YH,rfl,h4⟩:=hcut;have Hl:OutV f sT R w A bl bm 0 jF jG [] YH wc:=⟨h4.lay,h4.upd,h4.ptr,h4.err,h4.aQ,HV.o,rfl,rfl,rfl,rfl,by decide,λk=>by simp[jF,aY],λx hx=>by simp[jG] at hx;subst hx;exact⟨by decide,by decide⟩⟩;have Hq:=zh Hl;have O6:w.heap.size=A:=HA.o.symm;clear h4 Hl H3 a0 al O6 af al1 al2 Yz Kp TJ ZI;go_wp2_with (fail)
   go_loopw [30] (λs30 wr=>∃ (i:Nat) (s:bA) (L:gK) (Hc:List Nat) (tag:Nat->Nat),s30=.int .i64 i/\i<=sT.length/\OutV f sT R w A bl bm i s L Hc tag wr) (λs30 _=>sT.length-(RowKit.intOf s30).toNat)
   case atStart=>exact⟨0,jF,jG,[],YH,rfl,by omega,Hq.o⟩
   case round=>
    obtain⟨i,s,L,Hc,tag,rfl,hi,hO⟩:=hrel;have HO:=zh hO;clear hO Hq;by_cases Hf:i<sT.length
    . have hz:(i:Int)<(sT.length:Int):=by omega
      obtain⟨str,U1⟩:=zG sT i Hf;have LK:=zh (HO.o.rest.get U1);have Dy:=Q8.o.1 str (zM U1);have Si:wr.cell? ⟨g,i,none⟩=some (.string str):=by
       have cy:wr.ownsRow 0 9 1 (.slice (some ⟨g,0,none⟩) sT.length cap) sT.length (sT.map Value.string):=aU qk.o λb hb=>HO.o.upd.keep b ((qk.o.lt b hb).2) (.inl rfl);refine aE cy _ _ ?_;rw[List.getElem?_map,U1];rfl
      obtain⟨xc,Lr⟩:=HO.o.aQ.1;have cC:=aB _ _ 0 _ _ _ Lr;simp only[zLa,zLb] at cC;have fC:=aM _ _ 0 _ _ Lr;have Mi:=zh Lr;clear U1 Lr;go_upto_region 9 with (fail);have Jt:=HO.o.own.set (by have:=HA.o;omega) i;have A5:=HO.o.lay.set0 (A+1+1) HO.o.aQ.2 (.int .i64 i);have B2:(wr.setCell ⟨A+1+1,0,none⟩ (.int .i64 i)).heap[A+1+1]?=some (.cells #[.int .i64 i] 3 (0,0)):=by rw[aC _ (A+1+1) 0 _ _ _ _ Mi.o];rfl
      generalize wr.setCell ⟨A+1+1,0,none⟩ (.int .i64 i)=w5 at*;have uj:=zh B2;have MM:Tabs w5:=zba Q8.o.2.1 (λa ha=>by
       have hk:=Jt.upd.keep a.block (by have:=Q8.o.2.2.1;omega) (.inl rfl);unfold World.cell?;rw[hk])
      have TG:mN<=w5.heap.size:=zT Q8.o.2.2.1 Jt.upd.size;have uz:=zh Jt;have ae:=zh A5;have Q0:=zh (zAi MM TG)
      rcases LK.o with⟨er,Jk,ji,hR⟩|⟨t,hpt,hrest0⟩
      . have HR:=zh hR
        have II:=zh ji;have nj:=zh Jk;clear hR ji Jk B2 Jt A5 MM TG Si cC fC Mi;go_upto_region 10 with (go_at_call 56;refine (zdf str w5 Dy Q0.o.1 Q0.o.2 nj.o).mono ?_;rintro e w6 ⟨vp,yd⟩;unfold PRes at vp;rw[II.o] at vp;obtain⟨b5,rfl,Ss,Yq⟩:=vp;have XY:=zh (zAi Ss Yq);have Qe:=zh yd;clear Ss Yq yd)
        have Yx:=zh (uz.o.next (dL.below Qe.o (λ_ _=>rfl)));clear uz ae nj HO;go_upto_region 12 with (fail)
        have AA:Below w.heap.size w w6:=⟨Yx.o.upd.os,Yx.o.upd.tape,Yx.o.upd.output,Yx.o.upd.size,λb hb=>Yx.o.upd.keep b hb (.inl rfl)⟩;have XP:=gU AA (((zBr w6.heap.size w6).alloc (zR _) (.cells #[.int .i64 0,.int .i64 0,.int .i64 0] 86)).alloc (by simp) (.cells #[.pointer (some ⟨w6.heap.size,0,none⟩)] 82)) AA.size;have wP:=zh (zcC ⟨b5,0,none⟩ (w6.heap.size+1) (.pointer (some ⟨w6.heap.size,0,none⟩)) _ (HE.o.below XP (by have:=Q8.o.2.2.1;unfold mN at this;omega)) (bR _ _ _ (by simp)))
        have Yo:=zh XP;have WQ:=zh (show w6.heap.size+1<((w6.alloc (.cells #[.int .i64 0,.int .i64 0,.int .i64 0] 86)).alloc (.cells #[.pointer (some ⟨w6.heap.size,0,none⟩)] 82)).heap.size by simp)
        have nv:zH (∀ b,b<w6.heap.size->((w6.alloc (.cells #[.int .i64 0,.int .i64 0,.int .i64 0] 86)).alloc (.cells #[.pointer (some ⟨w6.heap.size,0,none⟩)] 82)).heap[b]?=w6.heap[b]?):=zh (((zBr w6.heap.size w6).alloc (zR _) (.cells #[.int .i64 0,.int .i64 0,.int .i64 0] 86)).alloc (by simp) (.cells #[.pointer (some ⟨w6.heap.size,0,none⟩)] 82)).block;clear AA XP
        go_upto_region 13 with (go_at_call 32;refine wP.o.mono ?_;rintro e w8 ⟨rfl,od,Sy⟩;have k8:=aB _ _ 0 _ _ _ od;simp only[zLa,zLb] at k8;have l8:=aA od;have Rd:=zh Sy;clear od Sy)
        have C7:∀ b,b<w6.heap.size->w8.heap[b]?=w6.heap[b]?:=λb hb=>(Rd.o.block b (by have:=WQ.o;omega) (λe=>by have:=zO e;omega)).trans (nv.o b hb);have Mw:=(C7 b5 (aA XY.o.1)).trans XY.o.1;have Ff:=(C7 A (aA Yx.o.ptr.1)).trans Yx.o.ptr.1;have PV:=(C7 (A+1) (aA Yx.o.err.1)).trans Yx.o.err.1;have q0:=aB _ _ 0 _ _ _ Mw;have q2:=aB _ _ 2 _ _ _ Mw;have qA:=aB _ _ 0 _ _ _ Ff;have qB:=aB _ _ 0 _ _ _ PV
        simp only[zLa,zLc,zLb] at q0 q2 qA qB;have fA:=aM _ _ 0 _ _ Ff;have fB:=aM _ _ 0 _ _ PV;have lA:=aA Ff;have lB:=aA PV;have nAB:A≠A+1:=by omega
        have Yr:Below w.heap.size w w8:=Yo.o.grown Rd.o Yo.o.size (λg2 hg=>by cases hg;have:=Yx.o.upd.size;omega);have ID:=zh (zAi Ff (zAi PV Yr));have n1:A≠w6.heap.size+1:=by have:=aA Yx.o.ptr.1;omega
        have n2:A+1≠w6.heap.size+1:=by have:=aA Yx.o.err.1;omega
        have n3:A≠b5:=by have:=XY.o.2;have:=aA uj.o;omega
        have n4:A+1≠b5:=by have:=XY.o.2;have:=aA uj.o;omega
        clear Mw Ff PV Yr C7;generalize w6.heap.size+1=c6 at k8 l8 n1 n2 ⊢;have n5:=n1.symm;have n6:=n2.symm;have n7:=n3.symm;have n8:=n4.symm;go_cut [] from 48 to 59 (λwx=>wx=(((w8.setCell ⟨A,0,none⟩ (.pointer none)).setCell ⟨A+1,0,none⟩ (.iface 82 (.pointer (some ⟨w8.heap.size,0,none⟩)))).alloc (.cells #[.int .i64 er.1,.int .i64 i,.int .i64 er.2] 86)).drew)
        case first=>
         refine wp_region_noPanic ?_;go_region_with (fail)
         all_goals
          refine NoPanic.normal ?_;go_wp2_with (fail);go_meet
          case rel=>rfl
        case rest=>
         go_wp2_with (fail);obtain⟨UG,tz⟩:=zaG w8 A (A+1) #[.int .i64 er.1,.int .i64 i,.int .i64 er.2] _ _ ID.o.1 ID.o.2.1 (by omega);have O3:wc.heap=(((w8.setCell ⟨A,0,none⟩ (.pointer none)).setCell ⟨A+1,0,none⟩ (.iface 82 (.pointer (some ⟨w8.heap.size,0,none⟩)))).alloc (.cells #[.int .i64 er.1,.int .i64 i,.int .i64 er.2] 86)).heap:=by rw[hcut];rfl
         rw[<-O3] at UG;have kj:Below w.heap.size w wc:=by
          rw[hcut];exact ID.o.2.2.trans (tz w.heap.size (by have:=HA.o;omega) (by have:=HA.o;omega)).drew
         refine leaves_cons (f:=55) (args:=#[.pointer (some ⟨A+1+1,0,none⟩),.pointer (some ⟨A,0,none⟩),.pointer (some ⟨A+1,0,none⟩)]) (by simp) (by simp[go_sem]) ?_;refine (zeN ⟨A+1+1,0,none⟩ ⟨A,0,none⟩ ⟨A+1,0,none⟩ wc).mono ?_;rintro r' u' w9 ⟨rfl,rfl,rfl⟩;have ca9:=aB w9 _ 0 _ _ _ UG.1;have cb9:=aB w9 _ 0 _ _ _ UG.2.1;simp at ca9 cb9;simp[Leaves,settle,results,Tryz.results33,go_sem,ca9,cb9];unfold LayRO;rw[HR.o];exact⟨kj,_,rfl,UG.2.2,ID.o.2.2.size⟩
      skip
      have JM:=zh hpt;have Kd:=zh hrest0;have nj:=zh (altP_fuel hpt Dy);clear hpt hrest0 B2 Jt A5 MM TG Si cC fC Mi;go_upto_region 14 with (go_at_call 56;refine (zdf str w5 Dy Q0.o.1 Q0.o.2 nj.o).mono ?_;rintro e w6 ⟨vp,yd⟩;unfold PRes at vp;rw[JM.o] at vp;obtain⟨v,rfl,Cr⟩:=vp;obtain⟨x,rfl,_⟩:=iS t v _ w6 Cr)
      obtain⟨YY,tA⟩:∃ y:Nat->Nat,y=λb=>if b<w5.heap.size then tag b else 7:=⟨_,rfl⟩
      have A6:=ae.o.tree yd;have i7:dL tag YY w5 w6:=dL.below yd (λb hb=>by rw[tA];exact zP hb);have Tt:aX (λg=>YY g=7/\g<w6.heap.size) w6 t (.iface (eP t) x):=(aX.lt t _ Cr).ext (λg hg=>⟨by rw[tA];exact zN (by have:=hg.1;unfold Fr at this;omega),hg.2⟩) (λ_ _ _=>rfl);rw[<-tA] at A6;have Yx:=zh (uz.o.next i7);have ny:=zh A6;have f5:=zh Tt;have EF:=zh ((yd.block _ (aA uj.o)).trans uj.o)
      clear A6 i7 Tt Cr tA yd uz ae Q0 nj;have pA:=aB _ _ 0 _ _ _ Yx.o.ptr.1;have lA:=aA Yx.o.ptr.1;simp only[zLa,zLb] at pA;obtain⟨vs6,vc6,vf6,vr6,vb6,cvs6,bvs6,BR,Nr⟩:=ny.o;have Uu:=aB _ _ 0 _ _ _ Nr.hl;have lbl:=aA Nr.hl;simp only[zLa,zLb] at Uu;obtain⟨gc,ka,N8,XA⟩:∃ g cap,vc6=.slice (some ⟨g,0,none⟩) s.cL.length cap/\s.cL.length<=cap:=by
       rcases bD Nr.rc with⟨_,h0⟩|⟨g,cap,e,h1,_⟩
       . have:=HO.o.pos;omega
       exact⟨g,cap,e,h1⟩
      rw[N8] at Uu;have gd:(s.cL.length:Int)<=9223372036854775807:=by
       have:s.cL.length<=maxLen:=by rcases Nr.rc.2 with⟨_,h⟩|⟨_,_,_,_,_,_,h,h',_⟩<;>omega
       unfold maxLen at this;omega
      clear BR Nr N8;go_cut [11,12] from 60 to 66 (λvv s12 wx=>∃ ab PI,vv=aK ab/\s12=.int .i64 s.cL.length/\fF YY bl bm w6 (s.push ⟨[],0,false⟩) L.rU L.fO (Hc++[ab]) PI wx)
      case first=>
       refine wp_region_noPanic ?_
       go_region
       all_goals
        refine NoPanic.normal ?_;go_wp2_with (fail);go_meet
        case rel=>
         obtain⟨PI,h7⟩:=(show fF YY bl bm w6 s L.rU L.fO Hc YY w6 from⟨ny.o,dL.refl _ _⟩).push;exact⟨_,PI,rfl,rfl,h7.drew⟩
      case rest=>
       obtain⟨ab,PI,rfl,rfl,h7⟩:=hcut
       rcases Kd.o with⟨TP,Nn,hR⟩|⟨p1,s1,YO,L3,TP,Xq,tu,hsm1,yy⟩
       . have HR:=zh hR
         have Kn:=h7.len;have Xz:(Hc++[ab]).getD s.kN.length 0=ab:=by
          have:Hc.length=s.kN.length:=by simpa[bA.push] using Kn
          rw[<-this];exact cG
         have Hh:=uH t s.kN.length (s.push ⟨[],0,false⟩) wc PI bl bm (Hc++[ab]) L.rU L.fO _ h7.lay HO.o.lr HO.o.lb HO.o.pos (aX.upd h7.upd f5.o) (by simp[bA.push]) TP Nn;rw[Xz] at Hh;have qi:=zh Hh;have au:=zh (Yx.o.next h7.upd);have EG:=zh ((h7.upd.keep _ (aA EF.o) (.inl Yx.o.aQ.2)).trans EF.o);clear Hh Kn Xz h7 TP Nn hR Uu lbl pA lA;go_wp2_with (fail);refine qi.o.mono ?_;rintro e w8 ⟨rfl,DW,FJ⟩;have pn:=zh (au.o.next FJ)
         have MW:=(FJ.keep _ (aA EG.o) (.inl au.o.aQ.2)).trans EG.o;have MT:=pn.o.ptr.1;have Yr:=pn.o.err.1;refine leaves_cons (f:=55) (args:=#[.pointer (some ⟨A+1+1,0,none⟩),.pointer (some ⟨A,0,none⟩),.pointer (some ⟨A+1,0,none⟩)]) (by simp) (by simp[go_sem]) ?_;refine (lay_catch (A+1+1) A (A+1) _ _ i w8 (aB w8 _ 0 _ _ _ MW) (aB w8 _ 0 _ _ _ MT) (aB w8 _ 0 _ _ _ Yr) (aM w8 _ 0 _ _ MT) (aM w8 _ 0 _ _ Yr) (by omega)).mono ?_;rintro r' u' w9 ⟨rfl,rfl,O3⟩
         obtain⟨UG,tz⟩:=zaG w8 A (A+1) #[.int .i64 6,.int .i64 i,.int .i64 0] _ _ MT Yr (by omega);rw[<-O3] at UG tz;have ca9:=aB w9 _ 0 _ _ _ UG.1;have cb9:=aB w9 _ 0 _ _ _ UG.2.1;simp only[zLa] at ca9 cb9;simp[Leaves,settle,results,Tryz.results33,go_sem,ca9,cb9];have Ph:Below w.heap.size w w8:=⟨pn.o.upd.os,pn.o.upd.tape,pn.o.upd.output,pn.o.upd.size,λb hb=>pn.o.upd.keep b hb (.inl rfl)⟩;have Mv:w.heap.size<=A:=by rw[HA.o];exact zR _
         unfold LayRO;rw[HR.o];exact⟨Ph.trans (tz w.heap.size Mv (by omega)),_,rfl,UG.2.2,Ph.size⟩
       obtain⟨G,hG⟩:=zE ((s1.fI p1).kN)
       rw[<-hG] at Xq tu;have im:∀ k,(bC s1.kN k).length<=1000000:=λk=>by have:=hsm1.1 k;rwa [show bC (s1.fI p1).kN k=bC s1.kN k from oZ _ _ _] at this
       have Jv:sR s1:=mZ t _ _ _ _ TP (HO.o.pl.push [] 0 false (by omega));have NI:=fY t _ _ _ _ TP;have Kn:=h7.len;have Xz:(Hc++[ab]).getD s.kN.length 0=ab:=by
        have:Hc.length=s.kN.length:=by simpa[bA.push] using Kn
        rw[<-this];exact cG
       have Hh:=rO t s.kN.length p1 (s.push ⟨[],0,false⟩) s1 wc PI bl bm (Hc++[ab]) L.rU L.fO _ h7.lay HO.o.lr HO.o.lb HO.o.pos (aX.upd h7.upd f5.o) (by simp[bA.push]) TP im;rw[Xz] at Hh;have qi:=zh Hh;have fh:=zh yy;have JL:=zh tu;have Ra:=zh Xq;have HG:=zh hG;have Ye:=zh (zAi hsm1 (zAi Jv (zAi NI (zAi Kn Xz))));have au:=zh (Yx.o.next h7.upd);clear Hh yy tu Xq hG hsm1 im Jv NI Kn Xz h7 TP Uu lbl pA lA
       go_upto_region 16 with (go_at_call 57;refine qi.o.mono ?_;rintro e w8 ⟨DW,kb,rfl,W3,Ou,FJ⟩;obtain⟨ap,Ja⟩:=zE ((Hc++[ab]++kb).getD p1 0);rw[<-Ja];obtain⟨vs8,vc8,vf8,vr8,vb8,cvs8,bvs8,ME,R7⟩:=W3;have C7:=ME.cell p1 Ou;rw[<-Ja] at C7;have c8:=aB _ _ 2 _ _ _ C7;have f8:=aM _ _ 2 _ _ C7;have l8:=aA C7;simp only[zLa,zLc,zLb] at c8;have Vj:=zh Ja;have T9:=zh (zAi ME R7);have Rp:=zh (zAi Ou FJ);clear Ja ME R7 C7 Ou FJ)
       have I1:=gZ.fI (show gZ w8 DW bl bm (Hc++[ab]++kb) s1 (L.rU++List.replicate (s1.cL.length-(s.push ⟨[],0,false⟩).cL.length) (-1)) L.fO from⟨vs8,vc8,vf8,vr8,vb8,cvs8,bvs8,T9.o.1,T9.o.2⟩) p1 Rp.o.1;rw[<-Vj.o] at I1;have FB:=(au.o.next Rp.o.2).next I1.2;generalize w8.setCell ⟨ap,2,none⟩ (.bool true)=w9 at*;have Ri:=zh I1;have E5:=zh FB;clear I1 FB T9 c8 f8 l8 au;obtain⟨vs9,vc9,vf9,vr9,vb9,cvs9,bvs9,I0,JU⟩:=Ri.o.1
       have XU:s.kN.length<(s1.fI p1).kN.length:=by
        have h:(s.push ⟨[],0,false⟩).kN.length<=s1.kN.length:=Ye.o.2.2.1.1
        have e1:(s.push ⟨[],0,false⟩).kN.length=s.kN.length+1:=by simp[bA.push]
        have e2:(s1.fI p1).kN.length=s1.kN.length:=by simp[bA.fI]
        omega
       have FM:ab=(Hc++[ab]++kb).getD s.kN.length 0:=by
        have WW:=Ye.o.2.2.2.1;rw[bF (by rw[WW];simp[bA.push])];exact Ye.o.2.2.2.2.symm
       have Ei:YO.length<=1000000:=by
        have h:=zcO (G:=(s1.fI p1).kN) I0.wf (by rw[<-HG.o];exact Ra.o) XU;exact zT h Ye.o.1.2.1
       have Lh:∀ j,aY (s1.fI p1).kN j<128:=λj=>Nat.lt_of_le_of_lt (Ye.o.2.1.fI p1 j) (by decide);have Hh:=zdl (s1.fI p1).kN Lh f s.kN.length YO w9 DW (Hc++[ab]++kb) vs9 (by rw[<-HG.o];exact Ra.o) I0 XU Ei;rw[<-FM,<-HG.o] at Hh;have XF:=zh Hh;have uu:=zh JU;have IK:=zh Lh;clear Hh I0 JU Ei Lh FM;go_upto_region 17 with (go_at_call 58;refine XF.o.mono ?_;rintro e Vi ⟨rfl,YX,Pf,KQ⟩;simp only[nY])
       have Aq:=uu.o.keep1 (λb hb _ h7=>KQ.keep b hb (by omega)) KQ.tags;have Ao:gZ Vi YX bl bm (Hc++[ab]++kb) (s1.fI p1) (L.rU++List.replicate (s1.cL.length-(s.push ⟨[],0,false⟩).cL.length) (-1)) L.fO:=⟨vs9,vc9,vf9,vr9,vb9,cvs9,bvs9,by rw[HG.o] at Pf;exact Pf,Aq⟩
       have KP:=(show fF YX bl bm Vi (s1.fI p1) (L.rU++List.replicate (s1.cL.length-(s.push ⟨[],0,false⟩).cL.length) (-1)) L.fO (Hc++[ab]++kb) YX Vi from⟨Ao,dL.refl _ _⟩).alloc0 (.cells #[.int .u64 (aO G YO).1,.int .u64 (aO G YO).2] 147);have Vv:=(E5.o.next (dL.of_d KQ)).next KP.upd
       have qb:(Vi.alloc (.cells #[.int .u64 (aO G YO).1,.int .u64 (aO G YO).2] 147)).heap[Vi.heap.size]?=some (.cells #[.int .u64 (aO G YO).1,.int .u64 (aO G YO).2] 147 (0,0)):=by rw[aN,zP rfl]
       obtain⟨g13,UB⟩:=zE (Vi.heap.size);have DE:dB YX Vi.heap.size 0 g13=0:=by rw[UB];simp[dB]
       rw[<-UB] at qb DE ⊢;rw[<-UB] at KP Vv;generalize Vi.alloc (.cells #[.int .u64 (aO G YO).1,.int .u64 (aO G YO).2] 147)=w11 at*;generalize dB YX g13 0=tag11 at*;have L0:=zh KP.lay;have ar:=zh Vv;clear UB Aq Ao KP Vv Pf KQ uu E5 Ri XF;obtain⟨vs11,vc11,vf11,vr11,vb11,cvs11,bvs11,Fu,Ar⟩:=L0.o;obtain⟨f0,fr,Pm⟩:∃ a r,L.fO=a::r:=by
        have h1:=HO.o.lf;have h2:=HO.o.pos;cases hL:L.fO with
        | nil=>rw[hL,List.length_nil] at h1;omega
        | cons a r=>exact⟨a,r,rfl⟩
       obtain⟨gf,capf,DR,hcf⟩:∃ g cap,vf11=.slice (some ⟨g,0,none⟩) L.fO.length cap/\L.fO.length<=cap:=by
        rcases bD Ar.rf with⟨_,h0⟩|⟨g,cap,e,h1,_⟩
        . rw[Pm] at h0;cases h0
        exact⟨g,cap,e,h1⟩
       have G8:=Ar.rf;rw[DR] at G8;have y0:w11.cell? ⟨gf,0,none⟩=some (.int .u64 f0.1):=aE G8 0 _ (by rw[Pm];rfl);have y1:w11.cell? ⟨gf,1,none⟩=some (.int .u64 f0.2):=aE G8 1 _ (by rw[Pm];rfl);have yA:=aB _ _ 0 _ _ _ ar.o.ptr.1;have yL:=aB _ _ 1 _ _ _ Ar.hl;have y2:=aB _ _ 0 _ _ _ qb;have y3:=aB _ _ 1 _ _ _ qb;simp only[zLa,zLc,zLb] at yA yL y2 y3;rw[DR] at yL
       have Yj:(0:Int)<(L.fO.length:Int):=by rw[Pm,List.length_cons];omega
       have yj:0<L.fO.length:=by omega
       have ut:=zh (zAi Fu Ar);have Fa:=zh (zAi DR G8);have tJ:=zh Pm;have Nj:=zh (zAi qb DE);have Hv:f0.Ok/\(aO G YO).Ok:=⟨HO.o.fok f0 (by rw[Pm];exact List.mem_cons_self ..),uP (by rw[HG.o];exact IK.o) _⟩;have QB:=zh Hv;clear Fu Ar DR G8 qb DE Hv Pm
       go_cut [] from 78 to 90 (λwx=>∃ JF,gZ wx JF bl bm (Hc++[ab]++kb) (s1.fI p1) (L.rU++List.replicate (s1.cL.length-(s.push ⟨[],0,false⟩).cL.length) (-1)) (f0.or (aO G YO)::fr)/\dL tag11 JF w11 wx)
       case first=>
        refine wp_region_noPanic ?_;refine cK (λw'=>w'.cell? ⟨A,0,none⟩=some (aK bl)/\w'.cell? ⟨bl,1,none⟩=some (.slice (some ⟨gf,0,none⟩) L.fO.length capf)/\w'.cell? ⟨gf,0,none⟩=some (.int .u64 f0.1)/\w'.cell? ⟨gf,1,none⟩=some (.int .u64 f0.2)/\w'.cell? ⟨g13,0,none⟩=some (.int .u64 (aO G YO).1)/\w'.cell? ⟨g13,1,none⟩=some (.int .u64 (aO G YO).2)) 13 (by kernel_rfl) ⟨yA,yL,y0,y1,y2,y3⟩ (λHe=> ?_);refine aH 0 He ?_;refine aH 1 He ?_;refine aH 2 He ?_;refine aH 3 He ?_;refine aH 4 He ?_;refine aH 5 He ?_;refine aH 6 He ?_;refine aH 7 He ?_;refine aH 8 He ?_;refine aH 9 He ?_;refine aH 10 He ?_;refine dA 11 (λK hK=> ?_);go_simp;go_at_call 59;refine (zdt f0 (aO G YO) _ QB.o.1 QB.o.2).mono ?_;rintro e PJ ⟨rfl,Qh⟩;simp only[nY];have lA:=aA ar.o.ptr.1;have lL:=aA ut.o.2.hl;have lgf:=(Fa.o.2.lt gf rfl).2;have l13:=aA Nj.o.1
        have BW:PJ.cell? ⟨A,0,none⟩=some (aK bl)/\PJ.cell? ⟨bl,1,none⟩=some (.slice (some ⟨gf,0,none⟩) L.fO.length capf)/\PJ.cell? ⟨gf,0,none⟩=some (.int .u64 f0.1)/\PJ.cell? ⟨gf,1,none⟩=some (.int .u64 f0.2)/\PJ.cell? ⟨g13,0,none⟩=some (.int .u64 (aO G YO).1)/\PJ.cell? ⟨g13,1,none⟩=some (.int .u64 (aO G YO).2):=
         ⟨(aL Qh _ lA).trans yA,(aL Qh _ lL).trans yL,(aL Qh _ lgf).trans y0,(aL Qh _ lgf).trans y1,(aL Qh _ l13).trans y2,(aL Qh _ l13).trans y3⟩
        refine hK.out _ _ (λ_=>BW) ?_;clear hK K He;have He:=BW;obtain⟨z0,z1,z2,z3,z4,z5⟩:=BW;have El:=(show PJ.ownsRow 0 147 2 _ _ _ from aU Fa.o.2 λg hg=>Qh.block g (Fa.o.2.lt g hg).2);have q0:=El.frozenAt 0;have q1:=El.frozenAt 1;clear El;(try simp only[Act.put,lA,lB,lC]);refine aH 12 He ?_;refine dA 13 (λK hK=> ?_);go_simp;refine hK.out _ _ (λh=>absurd rfl h) ?_;clear hK K He;(try simp only[Act.put,lA,lB,lC]);refine fK (by kernel_rfl) ?_;refine NoPanic.normal ?_;go_wp2_with (fail);go_meet
        case rel=>
         have hf:=gZ.first ut.o.1 ut.o.2 (show Below w11.heap.size w11 PJ from⟨Qh.os,Qh.tape,Qh.output,Qh.size,Qh.block⟩) gf capf Fa.o.1 f0 fr tJ.o (f0.or (aO G YO));exact⟨tag11,hf.1,hf.2⟩
       case rest=>
        obtain⟨JF,BS,FI⟩:=hcut;have Nh:=ar.o.next FI;have VH:(s1.fI p1).cL.length=s1.cL.length:=rfl;have Hl:InSt G f i (s1.fI p1) L3 w A bl bm (Hc++[ab]++kb) s.cL.length {L with cL:=s1.cL,fO:=L.fO.modify 0 (aW.or · (aO G YO))} JF wc:=by
         have e1:L.fO.modify 0 (aW.or · (aO G YO))=f0.or (aO G YO)::fr:=by rw[tJ.o];rfl
         refine⟨by rw[e1];exact BS,Nh,by have h:=JL.o;rw[HO.o.lb] at h;exact h,HO.o.lr,by rw[List.length_modify];exact HO.o.lf,?_,rfl⟩;rw[e1];intro y hy
         rcases List.mem_cons.1 hy with rfl|hy
         . exact or_ok QB.o.1 QB.o.2
         exact HO.o.fok y (by rw[tJ.o];exact List.mem_cons_of_mem _ hy)
        have Qt:s.cL.length<=s1.cL.length:=Ye.o.2.2.1.2.1;have xy:=zh Hl;have FO:(Hc++[ab]++kb).length=(s1.fI p1).kN.length:=by obtain⟨_,_,_,_,_,_,_,hk,_⟩:=BS;exact hk.la
        have ED:=zh FO;clear Hl FI BS Nh yA yL y0 y1 y2 y3 Yj yj ut Fa Nj FO;have vn:=HO.o.pos;go_upto_region 19 with (fail)
        obtain⟨Yy,Vz⟩:=zE (Hc++[ab]++kb);rw[<-Vz] at xy ED;clear Vz;go_loopw [15] (λs15 wr2=>∃ (n:Nat) (Ln:gK) (tagn:Nat->Nat),s15=.int .i64 n/\s.cL.length<=n/\n<=s1.cL.length/\InSt G f i (s1.fI p1) L3 w A bl bm Yy n Ln tagn wr2) (λs15 _=>s1.cL.length-(RowKit.intOf s15).toNat)
        case atStart=>exact⟨_,_,JF,rfl,zR _,Qt,xy.o⟩
        case round=>
         obtain⟨n,Ln,tagn,rfl,yj,xo,hI⟩:=hrel;have HI:=zh hI;clear hI xy;obtain⟨vsn,vcn,vfn,vrn,vbn,cvsn,bvsn,Fx,At⟩:=HI.o.lay;have yA:=aB _ _ 0 _ _ _ HI.o.own.ptr.1;have yL:=aB _ _ 0 _ _ _ At.hl;have yM:=aB _ _ 1 _ _ _ At.hm;have lA:=aA HI.o.own.ptr.1;have lL:=aA At.hl;simp only[zLa,zLc,zLb] at yA yL yM;obtain⟨gc2,capc2,i9,oh⟩:∃ g cap,vcn=.slice (some ⟨g,0,none⟩) s1.cL.length cap/\s1.cL.length<=cap:=by
          rcases bD At.rc with⟨_,h0⟩|⟨g,cap,e,h1,_⟩
          . have h0':s1.cL.length=0:=h0
            omega
          exact⟨g,cap,e,h1⟩
         rw[i9] at yL;have oq:(s1.cL.length:Int)<=9223372036854775807:=by
          have:s1.cL.length<=maxLen:=by rcases At.rc.2 with⟨_,h⟩|⟨_,_,_,_,_,_,h,h',_⟩<;>(have h2:(s1.fI p1).cL.length=s1.cL.length:=rfl)<;>omega
          unfold maxLen at this;omega
         by_cases Oh:n<s1.cL.length
         . have hzn:(n:Int)<(s1.cL.length:Int):=by omega
           have Kh:(s1.fI p1).bE.length=s1.cL.length:=by
            have h:=Ye.o.2.2.1.2.2.1;have h2:(s.push ⟨[],0,false⟩).cL.length=s.cL.length:=rfl;have h3:(s.push ⟨[],0,false⟩).bE.length=s.bE.length:=rfl;have h4:=HO.o.lb;show s1.bE.length=_;omega
           obtain⟨j,hj⟩:∃ j,(s1.fI p1).bE[n]?=some j:=⟨(s1.fI p1).bE[n],zLe (by omega)⟩;obtain⟨o7,o8⟩:=At.bb n j (by omega) hj;have SD:j<(s1.fI p1).kN.length:=by rw[<-ED.o];exact o7
           obtain⟨aj,MU⟩:=zE (Yy.getD j 0);rw[<-MU] at o8;obtain⟨gb,capb,DQ⟩:∃ g cap,vbn=.slice (some ⟨g,0,none⟩) s1.cL.length cap:=by
            rcases bD At.rb with⟨_,h0⟩|⟨g,cap,e,h1,_⟩
            . omega
            exact⟨g,cap,by rw[<-Kh];exact e⟩
           have jj:=At.rb;rw[DQ] at jj yM;have KU:wr.cell? ⟨gb,n,none⟩=some (aK aj):=aE (by rw[Kh] at jj;exact jj) n _ o8;have Ha:=HI.o.rest;have AN:(s1.fI p1).bE.drop n=j::(s1.fI p1).bE.drop (n+1):=by rw[List.drop_eq_getElem_cons (by omega)];congr 1;rw[zLe (by omega)] at hj;exact zO hj
           rw[AN,eV] at Ha;cases NA:uC G f j [] with
           | none=>rw[NA] at Ha;cases Ha
           | some lj=>
           rw[NA] at Ha;simp only at Ha;have Lh:∀ j,aY G j<128:=by rw[HG.o];exact IK.o
           have Ei:lj.length<=1000000:=by
            have h:=zcO (G:=(s1.fI p1).kN) Fx.wf (by rw[<-HG.o];exact NA) SD;exact zT h Ye.o.1.2.1
           have Hh:=zdl (s1.fI p1).kN IK.o f j lj wr tagn Yy vsn (by rw[<-HG.o];exact NA) Fx SD Ei;rw[<-MU,<-HG.o] at Hh;have T0:=zh Hh;have EV:=zh (zAi At Fx);have Kd:=zh Ha;clear Hh At Fx Ha NA AN hj o7 o8 MU DQ jj Kh Ei i9;go_upto_region 22 with (go_at_call 58;refine T0.o.mono ?_;rintro e Vi ⟨rfl,YX,Pf,KQ⟩;simp only[nY])
           have Aq:=EV.o.1.keep1 (λb hb _ h7=>KQ.keep b hb (by omega)) KQ.tags;have Ao:gZ Vi YX bl bm Yy (s1.fI p1) (Ln.rU++List.replicate ((s1.fI p1).cL.length-n) (-1)) Ln.fO:=⟨vsn,vcn,vfn,vrn,vbn,cvsn,bvsn,by rw[HG.o] at Pf;exact Pf,Aq⟩;have KP:=(show fF YX bl bm Vi (s1.fI p1) (Ln.rU++List.replicate ((s1.fI p1).cL.length-n) (-1)) Ln.fO Yy YX Vi from⟨Ao,dL.refl _ _⟩).alloc0 (.cells #[.int .u64 (aO G lj).1,.int .u64 (aO G lj).2] 147)
           have Vv:=(HI.o.own.next (dL.of_d KQ)).next KP.upd;have qb:(Vi.alloc (.cells #[.int .u64 (aO G lj).1,.int .u64 (aO G lj).2] 147)).heap[Vi.heap.size]?=some (.cells #[.int .u64 (aO G lj).1,.int .u64 (aO G lj).2] 147 (0,0)):=by rw[aN,zP rfl]
           obtain⟨g16,UC⟩:=zE (Vi.heap.size);have DF:dB YX Vi.heap.size 0 g16=0:=by rw[UC];simp[dB]
           rw[<-UC] at qb DF ⊢;rw[<-UC] at KP Vv;generalize Vi.alloc (.cells #[.int .u64 (aO G lj).1,.int .u64 (aO G lj).2] 147)=xf at*;generalize dB YX g16 0=K8 at*;have L8:=zh KP.lay;have PQ:=zh Vv;clear UC Aq Ao KP Vv Pf KQ EV T0 yA yL yM lA lL KU;obtain⟨vs16,vc16,vf16,vr16,vb16,cvs16,bvs16,Fv,As⟩:=L8.o;have P8:=HI.o.lf;obtain⟨gf2,capf2,U8,Zb⟩:∃ g cap,vf16=.slice (some ⟨g,0,none⟩) Ln.fO.length cap/\Ln.fO.length<=cap:=by
            rcases bD As.rf with⟨_,h0⟩|⟨g,cap,e,h1,_⟩
            . omega
            exact⟨g,cap,e,h1⟩
           have Jx:=As.rf;rw[U8] at Jx;have yA:=aB _ _ 0 _ _ _ PQ.o.ptr.1;have yL:=aB _ _ 1 _ _ _ As.hl;have y2:=aB _ _ 0 _ _ _ qb;have y3:=aB _ _ 1 _ _ _ qb;simp only[zLa,zLc,zLb] at yA yL y2 y3;rw[U8] at yL;have KI:=zh (zAi Fv As);have BK:=zh (zAi U8 Jx);have Af:=zh (zAi qb DF);have M8:Ln.fO.length+1<=1000000000:=by
            have h1:s1.cL.length<=1000000:=Ye.o.1.2.2;omega
           clear Fv As U8 Jx qb DF P8;go_cut [] from 112 to 121 (λwx=>∃ vw,gZ wx vw bl bm Yy (s1.fI p1) (Ln.rU++List.replicate ((s1.fI p1).cL.length-n) (-1)) (Ln.fO++[aO G lj])/\dL K8 vw xf wx)
           case first=>
            refine wp_region_noPanic ?_;refine cK (λw'=>w'.cell? ⟨A,0,none⟩=some (aK bl)/\w'.cell? ⟨bl,1,none⟩=some (.slice (some ⟨gf2,0,none⟩) Ln.fO.length capf2)/\w'.cell? ⟨g16,0,none⟩=some (.int .u64 (aO G lj).1)/\w'.cell? ⟨g16,1,none⟩=some (.int .u64 (aO G lj).2)) 10 (by kernel_rfl) ⟨yA,yL,y2,y3⟩ (λHe=> ?_);refine aH 0 He ?_;refine aH 1 He ?_;refine aH 2 He ?_;refine aH 3 He ?_;refine aH 4 He ?_;refine aH 5 He ?_;refine dA 6 (λK hK=> ?_);go_simp;have lA:=aA PQ.o.ptr.1;have lL:=aA KI.o.2.hl;have l16:=aA Af.o.1;have t7:Below xf.heap.size xf (xf.alloc (.cells #[.int .u64 (aO G lj).1,.int .u64 (aO G lj).2] 147)).drew:=((zBr _ xf).alloc (zR _) _).drew
            have sg:(xf.alloc (.cells #[.int .u64 (aO G lj).1,.int .u64 (aO G lj).2] 147)).drew.cell? ⟨A,0,none⟩=some (aK bl)/\(xf.alloc (.cells #[.int .u64 (aO G lj).1,.int .u64 (aO G lj).2] 147)).drew.cell? ⟨bl,1,none⟩=some (.slice (some ⟨gf2,0,none⟩) Ln.fO.length capf2)/\(xf.alloc (.cells #[.int .u64 (aO G lj).1,.int .u64 (aO G lj).2] 147)).drew.cell? ⟨g16,0,none⟩=some (.int .u64 (aO G lj).1)/\(xf.alloc (.cells #[.int .u64 (aO G lj).1,.int .u64 (aO G lj).2] 147)).drew.cell? ⟨g16,1,none⟩=some (.int .u64 (aO G lj).2):=
             ⟨(aL t7 _ lA).trans yA,(aL t7 _ lL).trans yL,(aL t7 _ l16).trans y2,(aL t7 _ l16).trans y3⟩
            refine hK.out _ _ (λ_=>sg) ?_;clear hK K He;(try simp only[Act.put,lA,lB,lC]);refine dA 7 (λK hK=> ?_)
            refine jR (by rfl) _ _ (by rfl) elemSet (.slice (some ⟨gf2,0,none⟩) Ln.fO.length capf2) Ln.fO.length (setCells Ln.fO) (by rfl) (by exact (BK.o.2.alloc _).drew) ⟨xf.heap.size,0,none⟩ 1 1 [.int .u64 (aO G lj).1,.int .u64 (aO G lj).2] (by rfl) (by rfl) (cM xf #[.int .u64 (aO G lj).1,.int .u64 (aO G lj).2] 147 xf.heap.size rfl) (by simp[Value.oneCell']) (by decide) M8 (by decide) ?_;intro v1 w1b qg Qq YB;obtain⟨gz,cz,rfl⟩:=bV qg
            have tgf:K8 gf2=6:=KI.o.2.t6 gf2 (by rw[BK.o.1];rfl);have Kl:∀ b,b<xf.heap.size->K8 b≠6->w1b.heap[b]?=xf.heap[b]?:=λb hb ht=>(Qq.block b (zLd hb t7.size) (λe=>ht (by cases e;exact tgf))).trans (t7.block b hb);have yu:∀ x:Addr,x.block<xf.heap.size->K8 x.block≠6->w1b.cell? x=xf.cell? x:=λx hb ht=>by unfold World.cell?;rw[Kl _ hb ht]
            have I8:w1b.cell? ⟨A,0,none⟩=some (aK bl)/\w1b.cell? ⟨bl,1,none⟩=some (.slice (some ⟨gf2,0,none⟩) Ln.fO.length capf2)/\w1b.cell? ⟨g16,0,none⟩=some (.int .u64 (aO G lj).1)/\w1b.cell? ⟨g16,1,none⟩=some (.int .u64 (aO G lj).2):=
             ⟨(yu ⟨A,0,none⟩ lA (by rw[PQ.o.ptr.2];decide)).trans yA,(yu ⟨bl,1,none⟩ lL (by rw[KI.o.2.tl];decide)).trans yL,(yu ⟨g16,0,none⟩ l16 (by rw[Af.o.2];decide)).trans y2,(yu ⟨g16,1,none⟩ l16 (by rw[Af.o.2];decide)).trans y3⟩
            have yg:=(Kl bl lL (by rw[KI.o.2.tl];decide)).trans KI.o.2.hl;have zf:=aM _ _ 1 _ _ yg;refine hK.out _ _ (λ_=>I8) ?_;clear hK K sg;(try simp only[Act.put,lA,lB,lC]);refine dA 8 (λK hK=> ?_);go_simp;refine hK.out _ _ (λ_=>I8) ?_;clear hK K;(try simp only[Act.put,lA,lB,lC]);refine dA 9 (λK hK=> ?_);go_simp;refine hK.out _ _ (λ_=>I8) ?_;clear hK K;(try simp only[Act.put,lA,lB,lC]);obtain⟨x0,x1,x2,x3⟩:=I8
            refine dA 10 (λK hK=> ?_);go_simp;refine hK.out _ _ (λh=>absurd rfl h) ?_;clear hK K;(try simp only[Act.put,lA,lB,lC]);refine fK (by kernel_rfl) ?_;refine NoPanic.normal ?_;go_wp2_with (fail);go_meet
            case rel=>
             obtain⟨vw,vx,RO,Ns⟩:=KI.o.2.pushFollow (x:=aO G lj) (.cells #[.int .u64 (aO G lj).1,.int .u64 (aO G lj).2] 147) BK.o.1 qg Qq YB;exact⟨vw,⟨_,_,_,_,_,_,_,RO.kat KI.o.1 (by decide) (by rw[KI.o.2.tl];decide),Ns⟩,RO.lupd (by decide) (by rw[KI.o.2.tl];decide)⟩
           case rest=>
            obtain⟨vw,I2,MO⟩:=hcut;have Au:=PQ.o.next MO;have Js:(s1.fI p1).cL.length-n=(s1.cL.length-(n+1))+1:=by
             have h2:(s1.fI p1).cL.length=s1.cL.length:=rfl;omega
            have Dn:(aO G lj).Ok:=uP (by rw[HG.o];exact IK.o) _;have O8:=zW n (by omega);cases kq:iR G lj with
            | false=>
             have Am:InSt G f i (s1.fI p1) L3 w A bl bm Yy (n+1) {Ln with fO:=Ln.fO++[aO G lj],rU:=Ln.rU++[-1]} vw wc:=by
              refine⟨?_,Au,?_,by simp[HI.o.lr],by simp[HI.o.lf],?_,HI.o.cL⟩
              . rw[Js,keep_mid] at I2;exact I2
              . have h:=Kd.o;rw[kq] at h;exact h
              intro y hy
              rcases List.mem_append.1 hy with h|h
              . exact HI.o.fok y h
              rw[zMs] at h;rw[h];exact Dn
             have pd:=zh Am;clear Am I2 MO Au Js kq yA yL y2 y3;go_wp2_with (fail);go_roundw
             case rel=>exact⟨n+1,_,vw,by go_num,by omega,by omega,pd.o⟩
             case measure=>(simp[zI]<;>omega)
            | true=>
             obtain⟨vsx,vcx,vfx,vrx,vbx,cvsx,bvsx,R6,Ns⟩:=I2;have Qz:(Ln.rU++List.replicate ((s1.fI p1).cL.length-n) (-1)).length=s1.cL.length:=by
              rw[zLn,List.length_replicate,HI.o.lr];have h2:(s1.fI p1).cL.length=s1.cL.length:=rfl;omega
             obtain⟨gx,capx,Ic⟩:∃ g cap,vrx=.slice (some ⟨g,0,none⟩) (Ln.rU++List.replicate ((s1.fI p1).cL.length-n) (-1)).length cap:=by
              rcases bD Ns.rr with⟨_,h0⟩|⟨g,cap,e,_,_⟩
              . omega
              exact⟨g,cap,e⟩
             have Vg:=Ns.setRule gx capx n Ic i;have jm:=Ns.rr;rw[Ic] at jm;have zA:=aB _ _ 0 _ _ _ Au.ptr.1;have zL:=aB _ _ 2 _ _ _ Ns.hl;simp only[zLa,zLc,zLb] at zA zL;rw[Ic,Qz] at zL;have zfr:=jm.frozenAt n;obtain⟨cr,Pj⟩:∃ u,wc.cell? ⟨gx,n,none⟩=some u:=by
              rw[jm.cellAt n (by rw[Qz];omega)];exact⟨_,zLe (by rw[List.length_map,Qz];exact Oh)⟩
             have tgx:vw gx=4:=Ns.t4 gx (by rw[Ic];rfl);have su:dL vw vw wc (wc.setCell ⟨gx,n,none⟩ (.int .i64 i)):=⟨rfl,rfl,rfl,by simp,λ_ _=>rfl,λb hb ht=>aG _ _ _ _ (λe=>by rw[show b=gx from e,tgx] at ht;omega)⟩;have Am:InSt G f i (s1.fI p1) L3 w A bl bm Yy (n+1) {Ln with fO:=Ln.fO++[aO G lj],rU:=Ln.rU++[(i:Int)]} vw (wc.setCell ⟨gx,n,none⟩ (.int .i64 i)):=by
              refine⟨?_,Au.next su,?_,by simp[HI.o.lr],by simp[HI.o.lf],?_,HI.o.cL⟩
              . refine⟨vsx,vcx,vfx,vrx,vbx,cvsx,bvsx,R6.apart (λ_ _=>rfl) (λb hb ht=>aG _ _ _ _ (λe=>by rw[show b=gx from e,tgx] at ht;omega)),?_⟩
                rw[Js] at Vg;have e:=set_mid Ln.rU (s1.cL.length-(n+1)) i;rw[HI.o.lr] at e;rw[e] at Vg;exact Vg
              . have h:=Kd.o;rw[kq] at h;exact h
              intro y hy
              rcases List.mem_append.1 hy with h|h
              . exact HI.o.fok y h
              rw[zMs] at h;rw[h];exact Dn
             have pd:=zh Am;clear Am R6 Ns MO Au Js kq Qz Ic Vg jm tgx su yA yL y2 y3;go_wp2_with (fail);go_roundw
             case rel=>exact⟨n+1,_,vw,by go_num,by omega,by omega,pd.o⟩
             case measure=>(simp[zI]<;>omega)
         have hzn:¬ (n:Int)<(s1.cL.length:Int):=by omega
         have Yk:n=s1.cL.length:=by omega
         have Ha:=HI.o.rest;have Kh:(s1.fI p1).bE.length=s1.cL.length:=by
          have h:=Ye.o.2.2.1.2.2.1;have h2:(s.push ⟨[],0,false⟩).cL.length=s.cL.length:=rfl;have h3:(s.push ⟨[],0,false⟩).bE.length=s.bE.length:=rfl;have h4:=HO.o.lb;show s1.bE.length=_;omega
         rw[List.drop_eq_nil_of_le (by omega),eV] at Ha;cases Ha;have GC:=HI.o.lay;rw[show (s1.fI p1).cL.length-n=0 from by rw[Yk];exact Nat.sub_self _,List.replicate_zero,List.append_nil] at GC;have sd:OutV f sT R w A bl bm (i+1) (s1.fI p1) L3 Yy tagn wr:=
          ⟨GC,HI.o.own.upd,HI.o.own.ptr,HI.o.own.err,HI.o.own.aQ,fh.o,HI.o.cL,by rw[HI.o.lr,Yk];rfl,by rw[HI.o.lf,Yk];rfl,Kh,by show 0<s1.cL.length;omega,Ye.o.2.1.fI p1,HI.o.fok⟩
         have Nf:=zh sd;have Xf:=zW i (by omega);clear sd GC Kh Fx At Yk;go_wp2_with (fail);go_roundw
         case rel=>exact⟨i+1,_,_,_,_,by go_num,by omega,Nf.o⟩
         case measure=>(simp[zI]<;>omega)
    have hz:¬ (i:Int)<(sT.length:Int):=by omega
    have xm:i=sT.length:=by omega
    have HR:=zh (HO.o.rest.end' xm);have cA:=aB _ _ 0 _ _ _ HO.o.ptr.1;have cB:=aB _ _ 0 _ _ _ HO.o.err.1;simp only[zLa,zLb] at cA cB;have fA:=aM _ _ 0 _ _ HO.o.ptr.1;have fB:=aM _ _ 0 _ _ HO.o.err.1;have lA:=aA HO.o.ptr.1;have lB:=aA HO.o.err.1;have nAB:A≠A+1:=by omega
    clear xm;go_wp2_with (fail);have Ph:Below w.heap.size w wr:=⟨HO.o.upd.os,HO.o.upd.tape,HO.o.upd.output,HO.o.upd.size,λb hb=>HO.o.upd.keep b hb (.inl rfl)⟩;have Mv:w.heap.size<=A:=by rw[HA.o];exact zR _
    have Hm:Below w.heap.size w ((wr.setCell ⟨A,0,none⟩ (aK bl)).setCell ⟨A+1,0,none⟩ .nilIface):=(Ph.setCell (p:=(⟨A,0,none⟩:Addr)) Mv _).setCell (p:=(⟨A+1,0,none⟩:Addr)) (by show w.heap.size<=A+1;omega) _;have WX:((wr.setCell ⟨A,0,none⟩ (aK bl)).setCell ⟨A+1,0,none⟩ .nilIface).heap[A]?=some (.cells #[aK bl] 88 (0,0)):=by
     rw[aG _ _ _ _ (by simp),aC _ A 0 _ _ _ _ HO.o.ptr.1];rfl
    have WY:((wr.setCell ⟨A,0,none⟩ (aK bl)).setCell ⟨A+1,0,none⟩ .nilIface).heap[A+1]?=some (.cells #[.nilIface] 34 (0,0)):=by
     rw[aC _ (A+1) 0 _ _ _ _ ((aG _ _ _ _ (by simp)).trans HO.o.err.1)];rfl
    have jg:∀ b,b≠A->b≠A+1->((wr.setCell ⟨A,0,none⟩ (aK bl)).setCell ⟨A+1,0,none⟩ .nilIface).heap[b]?=wr.heap[b]?:=λb h1 h2=>by rw[aG _ _ _ _ h2,aG _ _ _ _ h1]
    have Xs:rA ((wr.setCell ⟨A,0,none⟩ (aK bl)).setCell ⟨A+1,0,none⟩ .nilIface) bl L:=by
     obtain⟨vs9,vc9,vf9,vr9,vb9,cvs9,bvs9,I0,JU⟩:=HO.o.lay;have tn:∀ b c,tag b=c->c≠0->b≠A/\b≠A+1:=λb c h hc=>⟨λe=>by rw[e,HO.o.ptr.2] at h;exact hc h.symm,λe=>by rw[e,HO.o.err.2] at h;exact hc h.symm⟩;refine⟨vc9,vf9,vr9,cvs9,(jg bl (tn bl 1 JU.tl (by decide)).1 (tn bl 1 JU.tl (by decide)).2).trans JU.hl,?_,λi c hc=> ?_,?_,?_⟩
     . rw[HO.o.cL];exact aU JU.rc λg hg=>jg g (tn g 3 (JU.t3 g hg) (by decide)).1 (tn g 3 (JU.t3 g hg) (by decide)).2
     . rw[HO.o.cL] at hc
       obtain⟨cv,k1,k2,k3⟩:=JU.cc i c hc;exact⟨cv,k1,aU k2 λg hg=>jg g (tn g 7 (k3 g hg) (by decide)).1 (tn g 7 (k3 g hg) (by decide)).2⟩
     . exact aU JU.rr λg hg=>jg g (tn g 4 (JU.t4 g hg) (by decide)).1 (tn g 4 (JU.t4 g hg) (by decide)).2
     exact aU JU.rf λg hg=>jg g (tn g 6 (JU.t6 g hg) (by decide)).1 (tn g 6 (JU.t6 g hg) (by decide)).2
    generalize (wr.setCell ⟨A,0,none⟩ (aK bl)).setCell ⟨A+1,0,none⟩ .nilIface=w9 at*;refine leaves_cons (f:=55) (args:=#[.pointer (some ⟨A+1+1,0,none⟩),.pointer (some ⟨A,0,none⟩),.pointer (some ⟨A+1,0,none⟩)]) (by simp) (by simp[go_sem]) ?_;refine (zeN ⟨A+1+1,0,none⟩ ⟨A,0,none⟩ ⟨A+1,0,none⟩ w9).mono ?_;rintro r' u' w5 ⟨rfl,rfl,rfl⟩;have ca5:=aB w5 _ 0 _ _ _ WX;have cb5:=aB w5 _ 0 _ _ _ WY;simp at ca5 cb5;simp[Leaves,settle,results,Tryz.results33,go_sem,ca5,cb5];unfold LayRO;rw[HR.o]
    exact⟨Hm,bl,rfl,Xs⟩
inductive CmpV where
 | ok (T:iP)
 | err (e:Nat) (i k:Int)
def CmpR (V:CmpV) (w:World) (e:Ending) (w':World):Prop:=Below w.heap.size w w'/\match V with
 | .ok T=>∃ cb tb bc cc br cr bg cg,e=.returned (.tuple #[aK cb,.nilIface])/\w'.heap[cb]?=some (.cells #[aK tb] 70 (0,0))/\iW w'.heap.size w' tb T bc cc br cr bg cg/\w.heap.size<=tb/\w.heap.size<=cb
 | .err er i k=>er≠0/\∃ v,e=.returned (.tuple #[.pointer none,v])/\sG w' v er i k
structure MakeOk (L:gK):Prop where
 pos:0<L.cL.length
 max:L.cL.length<=65
 ranges:∀ c∈L.cL,gA c
 cU:(eJ L.cL).length<1000000
 lr:L.rU.length=L.cL.length
 lf:L.fO.length=L.cL.length
 fok:∀ x∈L.fO,x.Ok
def LayCmp (R:oB) (V:CmpV):Prop:=match R with
 | .err e i k=>e≠0/\V=.err e i k
 | .ok _ L=>MakeOk L/\((bU L ((bB L.cL).map (bG L.cL)) 202 [(1,0)] [] []=none/\V=.err 7 (-1) (-1))\/
  ∃ rU gO T,bU L ((bB L.cL).map (bG L.cL)) 202 [(1,0)] [] []=some (rU,gO)/\MakeH L T rU gO/\V=.ok T)
theorem cmp_count (sT:List ByteArray) (w:World) (g cap:Nat) (hn:sT.length<1\/8<sT.length) (hl:sT.length<=900000):
 Calls Tryz.prog 24 #[.slice (some ⟨g,0,none⟩) sT.length cap] w (CmpR (.err 1 (-1) (-1)) w):=by
 have Hm:CmpR (.err 1 (-1) (-1)) w (.returned (.tuple #[.pointer none,.iface 51 (.int .i64 1)])) w:=⟨zBr _ _,by decide,_,rfl,.num 1 (by decide)⟩;have HF:=zh Hm;clear Hm;by_cases h1:sT.length<1
 . have z1:(sT.length:Int)<1:=by omega
   clear hn;go_enter Tryz.func24,Tryz.ntmps24;go_wp2_with (fail);exact bodyPost_ret (v:=.tuple #[.pointer none,.iface 51 (.int .i64 1)]) (by simp[results,Tryz.results24,go_sem]) rfl HF.o
 have z1:¬ (sT.length:Int)<1:=by omega
 have z2:(8:Int)<(sT.length:Int):=by omega
 clear hn;go_enter Tryz.func24,Tryz.ntmps24;go_wp2_with (fail);exact bodyPost_ret (v:=.tuple #[.pointer none,.iface 51 (.int .i64 1)]) (by simp[results,Tryz.results24,go_sem]) rfl HF.o
theorem cmp_size (sT:List ByteArray) (w:World) (g cap i:Nat) (s:ByteArray) (hn:1<=sT.length/\sT.length<=8) (Hb:w.ownsRow 0 9 1 (.slice (some ⟨g,0,none⟩) sT.length cap) sT.length (sT.map Value.string))
 (hs:sT[i]?=some s) (hb:60<s.size) (hf:∀ (j:Nat) (u:ByteArray),j<i->sT[j]?=some u->u.size<=60):
 Calls Tryz.prog 24 #[.slice (some ⟨g,0,none⟩) sT.length cap] w (CmpR (.err 1 i 0) w):=by
 have z1:¬ (sT.length:Int)<1:=by omega
 have Dd:=(Hb.lt g rfl).2;have qk:=zh Hb;have HS:=zh hs;have HB:=zh hb;have HF:=zh hf;have xm:=kI hs;clear Hb hs hb hf;go_enter Tryz.func24,Tryz.ntmps24;go_wp2_with (fail);go_loopw [21] (λK7 wr=>∃ j:Nat,K7=.int .i64 j/\j<=i/\wr=w) (λK7 _=>sT.length-(RowKit.intOf K7).toNat)
 case atStart=>exact⟨0,rfl,by omega,rfl⟩
 case round=>
  obtain⟨j,rfl,hj,rfl⟩:=hrel;have hz:(j:Int)<(sT.length:Int):=by omega
  have Xf:=zW j (by omega);by_cases Hf:j<i
  . obtain⟨u,hu⟩:=zG sT j (by omega)
    have YL:=aE qk.o j (.string u) (by rw[List.getElem?_map,hu];rfl);have RM:(u.size:Int)<=60:=by have:=HF.o j u Hf hu;omega
    clear hu;go_wp2_with (fail);go_roundw
    case rel=>exact⟨j+1,by go_num,by omega,trivial⟩
    case measure=>(simp[zI]<;>omega)
  obtain rfl:j=i:=by omega
  have YL:=aE qk.o j (.string s) (by rw[List.getElem?_map,HS.o];rfl);have RM:¬ (s.size:Int)<=60:=by have:=HB.o;omega
  have h61:(60:Int)<(s.size:Int):=by have:=HB.o;omega
  go_wp2_with (fail);refine bodyPost_ret (v:=.tuple #[.pointer none,.iface 82 (.pointer (some ⟨wr.heap.size,0,none⟩))]) (by simp[results,Tryz.results24,go_sem]) rfl ?_;exact⟨(zBr _ _).alloc (zR _) _,by decide,_,rfl,.fault _ 1 _ _ (by decide) (bR _ _ _ rfl)⟩
theorem zbX (sT:List ByteArray) (w:World) (g cap f:Nat) (R:oB) (V:CmpV) (hn:1<=sT.length/\sT.length<=8) (Ev:∀ s∈sT,s.size<=60) (Hb:w.ownsRow 0 9 1 (.slice (some ⟨g,0,none⟩) sT.length cap) sT.length (sT.map Value.string))
 (hT:Tabs w) (hW:Wid w) (hG:mN<=w.heap.size) (hE:ErrT w) (hv:pY f sT R 0 jF jG) (hV:LayCmp R V):
 Calls Tryz.prog 24 #[.slice (some ⟨g,0,none⟩) sT.length cap] w (CmpR V w):=by
 have qk:=zh Hb;have HT:=zh (zAi hT hW);have YZ:=zh Ev;have HV:=zh hV;have us:=zh (layAll_v f sT R w g cap Hb Ev hn.2 hT hG hE hv);have yj:¬ (sT.length:Int)<1:=by omega
 have hn8:(sT.length:Int)<=8:=by omega
 have Dd:=(Hb.lt g rfl).2;clear Hb hT hW Ev hV hv hE hn;go_enter Tryz.func24,Tryz.ntmps24;go_wp2_with (fail);go_loopw [21] (λK7 wr=>∃ i:Nat,K7=.int .i64 i/\i<=sT.length/\wr=w) (λK7 _=>sT.length-(RowKit.intOf K7).toNat)
 case atStart=>exact⟨0,rfl,by omega,rfl⟩
 case round=>
  obtain⟨i,rfl,hi,rfl⟩:=hrel;by_cases Hf:i<sT.length
  . have hz:(i:Int)<(sT.length:Int):=by omega
    obtain⟨s,hs⟩:=zG sT i Hf;have YL:=aE qk.o i (.string s) (by rw[List.getElem?_map,hs];rfl);have RM:(s.size:Int)<=60:=by have:=YZ.o s (zM hs);omega
    have Xf:=zW i (by omega);clear hs;go_wp2_with (fail);go_roundw
    case rel=>exact⟨i+1,by go_num,by omega,trivial⟩
    case measure=>(simp[zI]<;>omega)
  have hz:¬ (i:Int)<(sT.length:Int):=by omega
  cases R with
  | err er i2 k2=>
   obtain⟨he,rfl⟩:=HV.o;go_wp2_with (first|(go_at_call 33;refine us.o.mono ?_;rintro e w1 ⟨Hk,b,rfl,QT,hb⟩;have H1:=zh (zAi Hk QT);clear Hk QT));refine bodyPost_ret (v:=.tuple #[.pointer none,.iface 82 (.pointer (some ⟨b,0,none⟩))]) (by simp[results,Tryz.results24,go_sem]) rfl ?_;exact⟨H1.o.1,he,_,rfl,.fault b er _ _ he H1.o.2⟩
  | ok s2 L=>
   obtain⟨NP,th⟩:=HV.o;have Xg:=zh NP;have LZ:=zh th;clear NP th;go_upto_region 12 with (go_at_call 33;refine us.o.mono ?_;rintro e w1 ⟨Hk,bl,rfl,kx⟩;have H1:=zh (zAi Hk kx);clear Hk kx);have IZ:=zT hG H1.o.1.size;have Vm:=zh IZ
   rcases LZ.o with⟨vm,rfl⟩|⟨rU,gO,T,vm,hmh,rfl⟩
   . have D9:zH (Calls Tryz.prog 34 #[aK bl] w1 λe w'=>e=.returned (.tuple #[.pointer none,.bool false])/\Below w1.heap.size w1 w'):=zh ((make_v L bl w1 H1.o.2 Xg.o.pos Xg.o.max Xg.o.ranges (HT.o.2.below H1.o.1 hG) Vm.o Xg.o.cU Xg.o.lr Xg.o.lf Xg.o.fok none vm ⟨[],[],[],0⟩ (λ_ _ h=>by cases h)).mono (by
      rintro e w2 (⟨_,h1,h2⟩|⟨⟨p,hp⟩,_⟩)
      . exact⟨h1,h2⟩
      cases hp))
     clear vm;go_wp2_with (first|(go_at_call 34;refine D9.o.mono ?_;rintro e w2 ⟨rfl,Hr⟩;have H2:=zh Hr;clear Hr));refine bodyPost_ret (v:=.tuple #[.pointer none,.iface 51 (.int .i64 7)]) (by simp[results,Tryz.results24,go_sem]) rfl ?_;exact⟨lH H1.o.1 H2.o H1.o.1.size,by decide,_,rfl,.num 7 (by decide)⟩
   have D9:zH (Calls Tryz.prog 34 #[aK bl] w1 (MakeO T w1)):=zh ((make_v L bl w1 H1.o.2 Xg.o.pos Xg.o.max Xg.o.ranges (HT.o.2.below H1.o.1 hG) Vm.o Xg.o.cU Xg.o.lr Xg.o.lf Xg.o.fok _ vm T (λr2 g2 h=>by cases h;exact hmh)).mono (by
    rintro e w2 (⟨h,_⟩|⟨_,h⟩)
    . cases h
    exact h))
   clear vm hmh;go_wp2_with (first|(go_at_call 34;refine D9.o.mono ?_;rintro e w2 ⟨tb,bc,cc,br,cr,bg,cg,rfl,N7,iy,Hr⟩;have H2:=zh (zAi N7 (zAi iy Hr));clear N7 iy Hr));refine bodyPost_ret (v:=.tuple #[aK w2.heap.size,.nilIface]) (by simp[results,Tryz.results24,go_sem]) rfl ?_;have hb:=lH H1.o.1 H2.o.2.2 H1.o.1.size;have Qi:=hb.alloc hb.size (.cells #[aK tb] 70)
   exact⟨Qi,w2.heap.size,tb,bc,cc,br,cr,bg,cg,rfl,bR _ _ _ rfl,(H2.o.1.below ((zBr _ w2).alloc (zR _) _)).mono (by simp),zT H1.o.1.size H2.o.2.1,hb.size⟩
