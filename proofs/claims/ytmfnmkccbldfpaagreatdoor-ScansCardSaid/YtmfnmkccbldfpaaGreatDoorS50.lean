/- Part of a proof. No condition. -/
import Derived.Test.YtmfnmkccbldfpaaGreatDoorS47
import Derived.Test.YtmfnmkccbldfpaaGreatDoorS49
set_option linter.unusedVariables false
set_option linter.unusedSimpArgs false
set_option maxRecDepth 100000
set_option maxHeartbeats 40000000
namespace Go.Proofs.YtmfnmkccbldfpaaGreatDoor
open Go.RowKit Go.Lib Tryz
theorem zzDC {p:Prop} (h:p:=by
 have:Hd.length=s.kN.length:=by simpa[bC.push] using JD
 rw[<-this];exact cV):p:=h
theorem zzCq {p:Prop} (h:p:=by rw[JR.o.2.tl];decide):p:=h
theorem zzCY {p:Prop} (h:p:=by
 intro y hy
 rcases List.mem_append.1 hy with h|h
 . exact HI.o.fok y h
 rw[zMs] at h;rw[h];exact ic):p:=h
theorem zzCS {p:Prop} (h:p:=by
 go_wp2_with fail;go_roundw
 case rel=>exact⟨n+1,_,Kh,by go_num,zo,zo,Tm.o⟩
 case measure=>exact zY):p:=h
theorem zzBL {p:Prop} (h:p:=by
 have h:=YE.o.2.2.1.2.2.1;have h2:(s.push ⟨[],0,false⟩).cL.length=s.cL.length:=rfl;have h3:(s.push ⟨[],0,false⟩).bE.length=s.bE.length:=rfl;have h4:=HO.o.lb;show s1.bE.length=_;omega):p:=h
theorem zzA1 {p q:Prop} (k:q) (h:q->p:=by intro zz;refine leaves_cons (f:=60) (args:=#[.pointer (some ⟨A+1+1,0,none⟩),.pointer (some ⟨A,0,none⟩),.pointer (some ⟨A+1,0,none⟩)]) zs zr ?_;exact zz):p:=h k
def LayRO (R:qX) (w:ω) (e:Ending) (w':ω):Prop:=w.u w'/\match R with
 | .ok _ L=>∃ bl,e=ρ (ϕ #[aF bl,.nilIface])/\xD w' bl L
 | .err er i k=>∃ b,e=ρ (ϕ #[Φ none,Δ 87 (π b)])/\zdY w' b er i k/\w.t<=b
theorem ze6 (v:Value) (w:ω):(Instr.typeAssert (Δ 86 v) 20 86 true).run prog w=.ok (ϕ #[v,φ true]) w:=by kernel_rfl
theorem lay_catch (C ba bb:Nat) (x y:Value) (k:Int) (w:ω) (hc:w.i C 0 k) (ha:w.v ba 0 x) (hb:w.v bb 0 y) (fa:w.q ba 0) (fb:w.q bb 0) (KJ:ba≠bb):
 CallsD prog 60 #[π C,π ba,π bb] (.panicking [{v:=Δ 86 (ι 6),recovered:=false}]) w λr u' w'=>
  r=ρ (ϕ #[])/\u'=.panicking [{v:=Δ 86 (ι 6),recovered:=true}]/\w'=κ (ς (ς w ba.a (Φ none)) bb.a (Δ 87 (π w.t))) (Ω #[ι 6,ι k,ι 0] 89):=by
 refine callsD_of_wpS func60 rfl λc₀ cs hu=> ?_;apply wpS_seq;apply wpS_region;generalize hQ:Exit.thenS _ _=Q;simp[wpOpsS,go_sem,recoverD,hu,ntmps60];subst hQ;simp only[Exit.thenS];refine wpS_of_wp (wp_mono (Q:=λen a' w'=>en=.normal/\a'.defers=[]/\w'=κ (ς (ς w ba.a (Φ none)) bb.a (Δ 87 (π w.t))) (Ω #[ι 6,ι k,ι 0] 89)) ?_ ?_)
 . change Code.wp _ _ _ {tmps:=#[π C,π ba,π bb,undef,undef,undef,Δ 86 (ι 6),undef,undef,undef,undef,undef,undef,undef,undef,undef,undef],defers:=[]} w
   have:=ze6 (ι 6);have:=lY ha;have:=lY hb;go_wp2
   all_goals trivial
 rintro en a' w' ⟨rfl,hd,h⟩
 cases c₀;simp_all[bodyPostS,results,results60]
theorem zcd (w:ω) (ba bb:Nat) (F:Array Value) (ta tb:TypeId) {xa xb:Value} (ha:w.h ba #[xa] ta) (hb:w.h bb #[xb] tb) (KJ:ba≠bb):
 let w':=κ (ς (ς w ba.a (Φ none)) bb.a (Δ 87 (π w.t))) (Ω F 89)
 (w'.h ba #[Φ none] ta/\w'.h bb #[Δ 87 (π w.t)] tb/\w'.h w.t F 89)/\
 (∀ B,B<=ba->B<=bb->Below B w w'):=by
 intro w';have:(ς (ς w ba.a (Φ none)) bb.a (Δ 87 (π w.t))).h ba #[Φ none] ta:=by
  rw[aD _ _ _ _ zo,aB w ba 0 (Φ none) _ _ _ ha];rfl
 have:(ς (ς w ba.a (Φ none)) bb.a (Δ 87 (π w.t))).h bb #[Δ 87 (π w.t)] tb:=by
  rw[aB _ bb 0 _ _ _ _ ((aD _ _ _ _ zg).trans hb)];rfl
 refine⟨⟨?_,?_,?_⟩,λB hA hB=> ?_⟩
 . grind [aV]
 . grind [aV]
 . rw[aV,zP zs]
 exact (((zBr B w).setCell hA _).setCell hB _).alloc zg _
structure OutV (f:Nat) (sT:List η) (R:qX) (w:ω) (A bl bm:Nat) (i:Nat) (s:bC) (L:iT) (Hd:ο) (tag:Nat->Nat) (wr:ω):Prop where
 lay:jC wr tag bl bm Hd s L.rU L.fO
 upd:eA (λ_=>0) tag w wr
 ptr:wr.h A #[aF bl] 90/\tag A=0
 err:wr.h (A+1) #[.nilIface] 51/\tag (A+1)=0
 aQ:(∃ x,wr.h (A+1+1) #[ι x] 3)/\tag (A+1+1)=0
 rest:uR f sT R i s L
 cL:L.cL=s.cL
 lr:I L.rU=I s.cL
 lf:I L.fO=I s.cL
 lb:I s.bE=I s.cL
 pos:0<I s.cL
 pl:PlOk s
 fok:∀ x∈L.fO,x.Ok
theorem OutV.own {f:Nat} {sT:List η} {R:qX} {w:ω} {A bl bm i:Nat} {s:bC} {L:iT} {Hd:ο} {tag:Nat->Nat} {wr:ω} (h:OutV f sT R w A bl bm i s L Hd tag wr):Own w A bl tag wr:=⟨h.upd,h.ptr,h.err,h.aQ⟩
theorem layAll_v (f:Nat) (sT:List ByteArray) (R:qX) (w:World) (g cap:Nat) (Hb:w.ownsRow 0 9 1 (.slice (some ⟨g,0,none⟩) sT.length cap) sT.length (sT.map Value.string)) (Hv:∀ s∈sT,s.size<=60) (hn:sT.length<=8) (hT:oK w) (hg:jV<=w.heap.size) (hE:ErrT w)
 (hV:uR f sT R 0 kW kX):Calls prog 29 #[.slice (some ⟨g,0,none⟩) sT.length cap] w (LayRO R w):=by
 have YR:=ziI;have Jm:=make_set;have Vc:=make_knot
 go_enter_defers func29,ntmps29
 go_upto_region 3 with fail
 have Hk:=(((zBr w.heap.size w).alloc bR (.cells #[.pointer none] 90)).alloc zs (.cells #[.nilIface] 51)).alloc zx (.cells #[.int .i64 0] 3);obtain⟨A,hA⟩:=zE (w.heap.size);rw[<-hA];have z1:(((w.alloc (.cells #[.pointer none] 90)).alloc (.cells #[.nilIface] 51)).alloc (.cells #[.int .i64 0] 3)).heap.size=A+3:=by simp[hA]
 have zA:(((w.alloc (.cells #[.pointer none] 90)).alloc (.cells #[.nilIface] 51)).alloc (.cells #[.int .i64 0] 3)).heap[A]?=some (.cells #[.pointer none] 90 (0,0)):=by
  rw[hA,aV,zN zx,aV,zN zs,aV,zP rfl]
 have zB:(((w.alloc (.cells #[.pointer none] 90)).alloc (.cells #[.nilIface] 51)).alloc (.cells #[.int .i64 0] 3)).heap[A+1]?=some (.cells #[.nilIface] 51 (0,0)):=by
  rw[hA,aV,zN zs,aV,zP zs]
 have zC:(((w.alloc (.cells #[.pointer none] 90)).alloc (.cells #[.nilIface] 51)).alloc (.cells #[.int .i64 0] 3)).heap[A+1+1]?=some (.cells #[.int .i64 0] 3 (0,0)):=by
  rw[hA,aV,zP zs]
 have XW:=zh Hk;have HA:=zh hA;clear hA Hk;generalize ((w.alloc (.cells #[.pointer none] 90)).alloc (.cells #[.nilIface] 51)).alloc (.cells #[.int .i64 0] 3)=w1 at*;have a0:=zq 0 zA;have af:=zF 0 zA;have al:=aA zA;have al1:A<w1.heap.size+1:=zo
 have al2:A<w1.heap.size+1+1:=zo
 have xp:A<w1.heap.size+1+1+1:=zo
 have HZ:=zh (zAi z1 (zAi zA (zAi zB zC)));have Hw:=zh Hb;have HV:=zh hV;have HE:=zh hE;have yh:=zh (zAi Hv (zAi hT (zAi hg trivial)));clear z1 zA zB zC Hb hV hE Hv hT hg;go_cut [] from 19 to 23 (λwx=>∃ bl gc gf gr,L3 w1 wx A bl gc gf gr)
 case first=>
  refine wp_region_noPanic ?_
  go_region
  all_goals
   refine NoPanic.normal ?_;go_wp2;go_meet
   case rel=>exact⟨_,_,_,_,L3.of HZ.o.2.1 zg⟩
 case rest=>
  obtain⟨bl,gc,gf,gr,h3⟩:=hcut;have H3:=zh h3;have a0:=zq 0 h3.ptr;have al:=aA h3.ptr;clear h3;go_upto_region 4 with fail;go_cut [5] from 24 to 27 (λs5 wx=>∃ bm tag,s5=aF bm/\L4 w wx A bl bm tag)
  case first=>
   refine wp_region_noPanic ?_
   go_region
   all_goals
    refine NoPanic.normal ?_;go_wp2;go_meet
    case rel=>
     obtain⟨tag,h4⟩:=L4.of XW.o HA.o HZ.o.1 HZ.o.2.2.1 HZ.o.2.2.2 H3.o
     grind
  case rest=>
   obtain⟨bm,xy,rfl,h4⟩:=hcut;have Hh:OutV f sT R w A bl bm 0 kW kX [] xy wc:=⟨h4.lay,h4.upd,h4.ptr,h4.err,h4.aQ,HV.o,rfl,rfl,rfl,rfl,zd,λk=>by simp[kW,aX],λx hx=>by simp[kX] at hx;subst hx;exact⟨zd,zd⟩⟩;have Hl:=zh Hh;have hwl:w.heap.size=A:=HA.o.symm;clear h4 Hh H3 a0 al hwl af al1 al2 xp YR Jm Vc;go_wp2_with fail
   go_loopw [30] (λs30 wr=>∃ (i:Nat) (s:bC) (L:iT) (Hd:List Nat) (tag:Nat->Nat),s30=.int .i64 i/\i<=sT.length/\OutV f sT R w A bl bm i s L Hd tag wr) (λs30 _=>sT.length-(RowKit.intOf s30).toNat)
   case atStart=>exact⟨0,kW,kX,[],xy,rfl,zo,Hl.o⟩
   case round=>
    obtain⟨i,s,L,Hd,tag,rfl,hi,hO⟩:=hrel;have HO:=zh hO;clear hO Hl;by_cases Hf:i<sT.length
    . have hz:=zt i sT.length
      obtain⟨str,DK⟩:=zG sT i Hf;have wU:=zh (HO.o.rest.get DK);have iw:=yh.o.1 str (zM DK);have hcg:wr.cell? ⟨g,i,none⟩=some (.string str):=by
       have Po:wr.ownsRow 0 9 1 (.slice (some ⟨g,0,none⟩) sT.length cap) sT.length (sT.map Value.string):=aU Hw.o λb hb=>HO.o.upd.keep b ((Hw.o.lt b hb).2) (.inl rfl);refine aJ Po _ _ ?_;rw[List.getElem?_map,DK];rfl
      obtain⟨xc,SZ⟩:=HO.o.aQ.1;have cC:=zq 0 SZ;have fC:=zF 0 SZ;have WO:=zh SZ;clear DK SZ;go_upto_region 9 with fail;have td:=HO.o.own.set (by have:=HA.o;omega) i;have U9:=HO.o.lay.set0 (A+1+1) HO.o.aQ.2 (.int .i64 i);have Gc:(wr.setCell ⟨A+1+1,0,none⟩ (.int .i64 i)).heap[A+1+1]?=some (.cells #[.int .i64 i] 3 (0,0)):=by rw[aB _ (A+1+1) 0 _ _ _ _ WO.o];rfl
      generalize wr.setCell ⟨A+1+1,0,none⟩ (.int .i64 i)=w5 at*;have BI:=zh Gc;have Zt:oK w5:=zbz yh.o.2.1 (λa ha=>by
       have hk:=td.upd.keep a.block (by have:=yh.o.2.2.1;omega) (.inl rfl);unfold World.cell?;rw[hk])
      have Jj:jV<=w5.heap.size:=zT yh.o.2.2.1 td.upd.size;have B5:=zh td;have un:=zh U9;have yl:=zh (zAi Zt Jj)
      rcases wU.o with⟨er,X7,Pm,hR⟩|⟨t,ld,hrest0⟩
      . have HR:=zh hR
        have sm:=zh Pm;have D8:=zh X7;clear hR Pm X7 Gc td U9 Zt Jj hcg cC fC WO;go_upto_region 10 with (go_at_call 61;refine (zfJ str w5 iw yl.o.1 yl.o.2 D8.o).mono ?_;rintro e w6 ⟨qy,QT⟩;unfold PRes at qy;rw[sm.o] at qy;obtain⟨b5,rfl,hf5,Qn⟩:=qy;have VV:=zh (zAi hf5 Qn);have Qs:=zh QT;clear hf5 Qn QT)
        have xm:=zh (B5.o.next (eA.below Qs.o (λ_ _=>rfl)));clear B5 un D8 HO;go_upto_region 12 with fail
        have UJ:Below w.heap.size w w6:=⟨xm.o.upd.os,xm.o.upd.tape,xm.o.upd.output,xm.o.upd.size,λb hb=>xm.o.upd.keep b hb (.inl rfl)⟩;have yv:=bI UJ (((zBr w6.heap.size w6).alloc bR (.cells #[.int .i64 0,.int .i64 0,.int .i64 0] 89)).alloc zs (.cells #[.pointer (some ⟨w6.heap.size,0,none⟩)] 87)) UJ.size;have HAS:=zh (ze5 ⟨b5,0,none⟩ (w6.heap.size+1) (.pointer (some ⟨w6.heap.size,0,none⟩)) _ (HE.o.below yv (by have:=yh.o.2.2.1;unfold jV at this;omega)) (bA _ _ _ zs))
        have yc:=zh yv;have HZ7:=zh (show w6.heap.size+1<((w6.alloc (.cells #[.int .i64 0,.int .i64 0,.int .i64 0] 89)).alloc (.cells #[.pointer (some ⟨w6.heap.size,0,none⟩)] 87)).heap.size by simp)
        have ec:zH (∀ b,b<w6.heap.size->((w6.alloc (.cells #[.int .i64 0,.int .i64 0,.int .i64 0] 89)).alloc (.cells #[.pointer (some ⟨w6.heap.size,0,none⟩)] 87)).heap[b]?=w6.heap[b]?):=zh (((zBr w6.heap.size w6).alloc bR (.cells #[.int .i64 0,.int .i64 0,.int .i64 0] 89)).alloc zs (.cells #[.pointer (some ⟨w6.heap.size,0,none⟩)] 87)).block;clear UJ yv
        go_upto_region 13 with (go_at_call 62;refine HAS.o.mono ?_;rintro e w8 ⟨rfl,ZT,hg8⟩;have k8:=zq 0 ZT;have l8:=aA ZT;have HG8:=zh hg8;clear ZT hg8)
        have Bu:∀ b,b<w6.heap.size->w8.heap[b]?=w6.heap[b]?:=λb hb=>(HG8.o.block b (by have:=HZ7.o;omega) (λe=>by have:=zO e;omega)).trans (ec.o b hb);have Zc:=(Bu b5 (aA VV.o.1)).trans VV.o.1;have mn:=(Bu A (aA xm.o.ptr.1)).trans xm.o.ptr.1;have Am:=(Bu (A+1) (aA xm.o.err.1)).trans xm.o.err.1;have q0:=zq 0 Zc;have q2:=zq 2 Zc;have qA:=zq 0 mn;have qB:=zq 0 Am
        have fA:=zF 0 mn;have fB:=zF 0 Am;have lA:=aA mn;have lB:=aA Am;have nAB:A≠A+1:=zo
        have Yf:Below w.heap.size w w8:=yc.o.grown HG8.o yc.o.size (λg2 hg=>by cases hg;have:=xm.o.upd.size;omega);have se:=zh (zAi mn (zAi Am Yf));have n1:A≠w6.heap.size+1:=by have:=aA xm.o.ptr.1;omega
        have n2:A+1≠w6.heap.size+1:=by have:=aA xm.o.err.1;omega
        have n3:A≠b5:=by have:=VV.o.2;have:=aA BI.o;omega
        have n4:A+1≠b5:=by have:=VV.o.2;have:=aA BI.o;omega
        clear Zc mn Am Yf Bu;generalize w6.heap.size+1=c6 at k8 l8 n1 n2 ⊢;have n5:=n1.symm;have n6:=n2.symm;have n7:=n3.symm;have n8:=n4.symm;go_cut [] from 48 to 59 (λwx=>wx=(((w8.setCell ⟨A,0,none⟩ (.pointer none)).setCell ⟨A+1,0,none⟩ (.iface 87 (.pointer (some ⟨w8.heap.size,0,none⟩)))).alloc (.cells #[.int .i64 er.1,.int .i64 i,.int .i64 er.2] 89)).drew)
        case first=>
         refine zzAl ?_;go_region_with fail
         all_goals
          refine NoPanic.normal ?_;go_wp2;go_meet;rfl
        case rest=>
         go_wp2_with fail;obtain⟨Dq,AH⟩:=zcd w8 A (A+1) #[.int .i64 er.1,.int .i64 i,.int .i64 er.2] _ _ se.o.1 se.o.2.1 zo;have RC:wc.heap=(((w8.setCell ⟨A,0,none⟩ (.pointer none)).setCell ⟨A+1,0,none⟩ (.iface 87 (.pointer (some ⟨w8.heap.size,0,none⟩)))).alloc (.cells #[.int .i64 er.1,.int .i64 i,.int .i64 er.2] 89)).heap:=by rw[hcut];rfl
         rw[<-RC] at Dq;have XN:Below w.heap.size w wc:=by
          rw[hcut];exact se.o.2.2.trans (AH w.heap.size (by have:=HA.o;omega) (by have:=HA.o;omega)).drew
         refine zzA1 ?_;refine (zhD ⟨A+1+1,0,none⟩ ⟨A,0,none⟩ ⟨A+1,0,none⟩ wc).mono ?_;rintro r' u' w9 ⟨rfl,rfl,rfl⟩;have ca9:=bF w9 _ 0 _ _ _ Dq.1;have cb9:=bF w9 _ 0 _ _ _ Dq.2.1;simp at ca9 cb9;simp[Leaves,settle,results,results29,go_sem,ca9,cb9];unfold LayRO;rw[HR.o];exact⟨XN,_,rfl,Dq.2.2,se.o.2.2.size⟩
      skip
      have Ju:=zh ld;have Ye:=zh hrest0;have D8:=zh (altP_fuel ld iw);clear ld hrest0 Gc td U9 Zt Jj hcg cC fC WO;go_upto_region 14 with (go_at_call 61;refine (zfJ str w5 iw yl.o.1 yl.o.2 D8.o).mono ?_;rintro e w6 ⟨qy,QT⟩;unfold PRes at qy;rw[Ju.o] at qy;obtain⟨v,rfl,NI⟩:=qy;obtain⟨x,rfl,_⟩:=kE t v _ w6 NI)
      obtain⟨Xs,AJ⟩:∃ y:Nat->Nat,y=λb=>if b<w5.heap.size then tag b else 7:=⟨_,rfl⟩
      have nc:=un.o.tree QT;have Rq:eA tag Xs w5 w6:=eA.below QT (λb hb=>by rw[AJ];exact zP hb);have Cy:aW (λg=>Xs g=7/\g<w6.heap.size) w6 t (.iface (fU t) x):=(aW.lt t _ NI).ext (λg hg=>⟨by rw[AJ];exact zN zo,hg.2⟩) (λ_ _ _=>rfl);rw[<-AJ] at nc;have xm:=zh (B5.o.next Rq);have ek:=zh nc;have ma:=zh Cy;have Lg:=zh ((QT.block _ (aA BI.o)).trans BI.o);clear nc Rq Cy NI AJ QT B5 un yl D8
      have pA:=zq 0 xm.o.ptr.1;have lA:=aA xm.o.ptr.1;obtain⟨vs6,vc6,vf6,vr6,vb6,cvs6,bvs6,F8,Em⟩:=ek.o;have Gs:=zq 0 Em.hl;have lbl:=aA Em.hl;obtain⟨gc,Jc,Io,Vn⟩:∃ g cap,vc6=.slice (some ⟨g,0,none⟩) s.cL.length cap/\s.cL.length<=cap:=by
       rcases aY Em.rc with⟨_,h0⟩|⟨g,cap,e,h1,_⟩
       . have:=HO.o.pos;omega
       exact⟨g,cap,e,h1⟩
      rw[Io] at Gs;have MX:(s.cL.length:Int)<=9223372036854775807:=by
       have:s.cL.length<=maxLen:=by rcases Em.rc.2 with⟨_,h⟩|⟨_,_,_,_,_,_,h,h',_⟩<;>omega
       exact zzBs
      clear F8 Em Io;go_cut [11,12] from 60 to 66 (λVT s12 wx=>∃ ab ay,VT=aF ab/\s12=.int .i64 s.cL.length/\iA Xs bl bm w6 (s.push ⟨[],0,false⟩) L.rU L.fO (Hd++[ab]) ay wx)
      case first=>
       refine wp_region_noPanic ?_
       go_region
       all_goals
        refine NoPanic.normal ?_;go_wp2;go_meet
        case rel=>
         obtain⟨ay,h7⟩:=(show iA Xs bl bm w6 s L.rU L.fO Hd Xs w6 from⟨ek.o,eA.refl _ _⟩).push;exact⟨_,ay,rfl,rfl,h7.drew⟩
      case rest=>
       obtain⟨ab,ay,rfl,rfl,h7⟩:=hcut
       rcases Ye.o with⟨C4,Ej,hR⟩|⟨p1,s1,YD,L3,C4,KU,pm,hsm1,Qv⟩
       . have HR:=zh hR
         have JD:=h7.len;have KJ:(Hd++[ab]).getD s.kN.length 0=ab:=by
          exact zzDC
         have Hj:=zaO t s.kN.length (s.push ⟨[],0,false⟩) wc ay bl bm (Hd++[ab]) L.rU L.fO _ h7.lay HO.o.lr HO.o.lb HO.o.pos (aW.upd h7.upd ma.o) (by simp[bC.push]) C4 Ej;rw[KJ] at Hj;have qw:=zh Hj;have uy:=zh (xm.o.next h7.upd);have Lh:=zh ((h7.upd.keep _ (aA Lg.o) (.inl xm.o.aQ.2)).trans Lg.o);clear Hj JD KJ h7 C4 Ej hR Gs lbl pA lA;go_wp2_with fail;refine qw.o.mono ?_;rintro e w8 ⟨rfl,It,Mp⟩;have Ts:=zh (uy.o.next Mp)
         have ZF:=(Mp.keep _ (aA Lh.o) (.inl uy.o.aQ.2)).trans Lh.o;have ZC:=Ts.o.ptr.1;have Yf:=Ts.o.err.1;refine zzA1 ?_;refine (lay_catch (A+1+1) A (A+1) _ _ i w8 (bF w8 _ 0 _ _ _ ZF) (bF w8 _ 0 _ _ _ ZC) (bF w8 _ 0 _ _ _ Yf) (bN w8 _ 0 _ _ ZC) (bN w8 _ 0 _ _ Yf) zo).mono ?_;rintro r' u' w9 ⟨rfl,rfl,RC⟩
         obtain⟨Dq,AH⟩:=zcd w8 A (A+1) #[.int .i64 6,.int .i64 i,.int .i64 0] _ _ ZC Yf zo;rw[<-RC] at Dq AH;have ca9:=bF w9 _ 0 _ _ _ Dq.1;have cb9:=bF w9 _ 0 _ _ _ Dq.2.1;simp only[zLa] at ca9 cb9;simp[Leaves,settle,results,results29,go_sem,ca9,cb9];have Cb:Below w.heap.size w w8:=⟨Ts.o.upd.os,Ts.o.upd.tape,Ts.o.upd.output,Ts.o.upd.size,λb hb=>Ts.o.upd.keep b hb (.inl rfl)⟩;have W6:w.heap.size<=A:=by rw[HA.o];exact bR
         unfold LayRO;rw[HR.o];exact⟨Cb.trans (AH w.heap.size W6 zo),_,rfl,Dq.2.2,Cb.size⟩
       obtain⟨G,hG⟩:=zE ((s1.fI p1).kN)
       rw[<-hG] at KU pm;have Ra:∀ k,(bD s1.kN k).length<=1000000:=λk=>by have:=hsm1.1 k;rwa [show bD (s1.fI p1).kN k=bD s1.kN k from sL _ _ _] at this
       have K8:PlOk s1:=pR t _ _ _ _ C4 (HO.o.pl.push [] 0 false zo);have EI:=iD t _ _ _ _ C4;have JD:=h7.len;have KJ:(Hd++[ab]).getD s.kN.length 0=ab:=by
        exact zzDC
       have Hj:=xW t s.kN.length p1 (s.push ⟨[],0,false⟩) s1 wc ay bl bm (Hd++[ab]) L.rU L.fO _ h7.lay HO.o.lr HO.o.lb HO.o.pos (aW.upd h7.upd ma.o) (by simp[bC.push]) C4 Ra;rw[KJ] at Hj;have qw:=zh Hj;have LU:=zh Qv;have tM:=zh pm;have HD1:=zh KU;have HG:=zh hG;have YE:=zh (zAi hsm1 (zAi K8 (zAi EI (zAi JD KJ))));have uy:=zh (xm.o.next h7.upd);clear Hj Qv pm KU hG hsm1 Ra K8 EI JD KJ h7 C4 Gs lbl pA lA
       go_upto_region 16 with (go_at_call 63;refine qw.o.mono ?_;rintro e w8 ⟨It,Jd,rfl,hL8,hp8,Mp⟩;obtain⟨ap,PN⟩:=zE ((Hd++[ab]++Jd).getD p1 0);rw[<-PN];obtain⟨vs8,vc8,vf8,vr8,vb8,cvs8,bvs8,Zj,hM8⟩:=hL8;have Bu:=Zj.cell p1 hp8;rw[<-PN] at Bu;have c8:=zq 2 Bu;have f8:=zF 2 Bu;have l8:=aA Bu;have Ks:=zh PN;have uk:=zh (zAi Zj hM8);have HP8:=zh (zAi hp8 Mp);clear PN Zj hM8 Bu hp8 Mp)
       have Sl:=jC.fI (show jC w8 It bl bm (Hd++[ab]++Jd) s1 (L.rU++List.replicate (s1.cL.length-(s.push ⟨[],0,false⟩).cL.length) (-1)) L.fO from⟨vs8,vc8,vf8,vr8,vb8,cvs8,bvs8,uk.o.1,uk.o.2⟩) p1 HP8.o.1;rw[<-Ks.o] at Sl;have Mg:=(uy.o.next HP8.o.2).next Sl.2;generalize w8.setCell ⟨ap,2,none⟩ (.bool true)=w9 at*;have HL9:=zh Sl;have LO:=zh Mg;clear Sl Mg uk c8 f8 l8 uy;obtain⟨vs9,vc9,vf9,vr9,vb9,cvs9,bvs9,Sk,tU⟩:=HL9.o.1
       have YQ:s.kN.length<(s1.fI p1).kN.length:=by
        have h:(s.push ⟨[],0,false⟩).kN.length<=s1.kN.length:=YE.o.2.2.1.1;have e1:(s.push ⟨[],0,false⟩).kN.length=s.kN.length+1:=by simp[bC.push]
        have e2:(s1.fI p1).kN.length=s1.kN.length:=by simp[bC.fI]
        omega
       have Mr:ab=(Hd++[ab]++Jd).getD s.kN.length 0:=by
        have h7l:=YE.o.2.2.2.1;rw[bK (by rw[h7l];simp[bC.push])];exact YE.o.2.2.2.2.symm
       have IW:YD.length<=1000000:=by
        have h:=zfh (G:=(s1.fI p1).kN) Sk.wf (by rw[<-HG.o];exact HD1.o) YQ;exact zT h YE.o.1.2.1
       have SL:∀ j,aX (s1.fI p1).kN j<128:=λj=>Nat.lt_of_le_of_lt (YE.o.2.1.fI p1 j) zd;have Hj:=zfQ (s1.fI p1).kN SL f s.kN.length YD w9 It (Hd++[ab]++Jd) vs9 (by rw[<-HG.o];exact HD1.o) Sk YQ IW;rw[<-Mr,<-HG.o] at Hj;have Vv:=zh Hj;have BY:=zh tU;have Wr:=zh SL;clear Hj Sk tU IW SL Mr;go_upto_region 17 with (go_at_call 64;refine Vv.o.mono ?_;rintro e Ki ⟨rfl,Xr,TK,J4⟩;simp only[qV])
       have Uy:=BY.o.keep1 (λb hb _ h7=>J4.keep b hb zo) J4.tags;have Uw:jC Ki Xr bl bm (Hd++[ab]++Jd) (s1.fI p1) (L.rU++List.replicate (s1.cL.length-(s.push ⟨[],0,false⟩).cL.length) (-1)) L.fO:=⟨vs9,vc9,vf9,vr9,vb9,cvs9,bvs9,by rw[HG.o] at TK;exact TK,Uy⟩
       have JZ:=(show iA Xr bl bm Ki (s1.fI p1) (L.rU++List.replicate (s1.cL.length-(s.push ⟨[],0,false⟩).cL.length) (-1)) L.fO (Hd++[ab]++Jd) Xr Ki from⟨Uw,eA.refl _ _⟩).alloc0 (.cells #[.int .u64 (aO G YD).1,.int .u64 (aO G YD).2] 176);have KF:=(LO.o.next (eA.of_d J4)).next JZ.upd
       have Ht:(Ki.alloc (.cells #[.int .u64 (aO G YD).1,.int .u64 (aO G YD).2] 176)).heap[Ki.heap.size]?=some (.cells #[.int .u64 (aO G YD).1,.int .u64 (aO G YD).2] 176 (0,0)):=by rw[aV,zP rfl]
       obtain⟨g13,Dl⟩:=zE (Ki.heap.size);have Ib:dI Xr Ki.heap.size 0 g13=0:=by rw[Dl];simp[dI]
       rw[<-Dl] at Ht Ib ⊢;rw[<-Dl] at JZ KF;generalize Ki.alloc (.cells #[.int .u64 (aO G YD).1,.int .u64 (aO G YD).2] 176)=w11 at*;generalize dI Xr g13 0=tag11 at*;have Wk:=zh JZ.lay;have ux:=zh KF;clear Dl Uy Uw JZ KF TK J4 BY LO HL9 Vv;obtain⟨vs11,vc11,vf11,vr11,vb11,cvs11,bvs11,mz,Uz⟩:=Wk.o;obtain⟨f0,fr,TR⟩:∃ a r,L.fO=a::r:=by
        have h1:=HO.o.lf;have h2:=HO.o.pos;cases hL:L.fO with
        | nil=>rw[hL,List.length_nil] at h1;omega
        | cons a r=>simp
       obtain⟨gf,capf,Ip,hcf⟩:∃ g cap,vf11=.slice (some ⟨g,0,none⟩) L.fO.length cap/\L.fO.length<=cap:=by
        rcases aY Uz.rf with⟨_,h0⟩|⟨g,cap,e,h1,_⟩
        . rw[TR] at h0;cases h0
        exact⟨g,cap,e,h1⟩
       have Ns:=Uz.rf;rw[Ip] at Ns;have y0:w11.cell? ⟨gf,0,none⟩=some (.int .u64 f0.1):=aJ Ns 0 _ (by rw[TR];rfl);have y1:w11.cell? ⟨gf,1,none⟩=some (.int .u64 f0.2):=aJ Ns 1 _ (by rw[TR];rfl);have yA:=zq 0 ux.o.ptr.1;have yL:=zq 1 Uz.hl;have y2:=zq 0 Ht;have y3:=zq 1 Ht;rw[Ip] at yL
       have Yn:(0:Int)<(L.fO.length:Int):=by rw[TR,List.length_cons];omega
       have QR:0<L.fO.length:=zo
       have BX:=zh (zAi mz Uz);have me:=zh (zAi Ip Ns);have AP:=zh TR;have Ef:=zh (zAi Ht Ib);have Hq:f0.Ok/\(aO G YD).Ok:=⟨HO.o.fok f0 (by rw[TR];simp),zat (by rw[HG.o];exact Wr.o) _⟩;have QA:=zh Hq;clear mz Uz Ip Ns Ht Ib Hq TR
       go_cut [] from 78 to 90 (λwx=>∃ tF,jC wx tF bl bm (Hd++[ab]++Jd) (s1.fI p1) (L.rU++List.replicate (s1.cL.length-(s.push ⟨[],0,false⟩).cL.length) (-1)) (f0.or (aO G YD)::fr)/\eA tag11 tF w11 wx)
       case first=>
        refine zzAl ?_;refine bV (λw'=>w'.cell? ⟨A,0,none⟩=some (aF bl)/\w'.cell? ⟨bl,1,none⟩=some (.slice (some ⟨gf,0,none⟩) L.fO.length capf)/\w'.cell? ⟨gf,0,none⟩=some (.int .u64 f0.1)/\w'.cell? ⟨gf,1,none⟩=some (.int .u64 f0.2)/\w'.cell? ⟨g13,0,none⟩=some (.int .u64 (aO G YD).1)/\w'.cell? ⟨g13,1,none⟩=some (.int .u64 (aO G YD).2)) 13 zr ⟨yA,yL,y0,y1,y2,y3⟩ (λHc=> ?_);refine zzAC ?_;refine aE 8 Hc ?_;refine aE 9 Hc ?_;refine aE 10 Hc ?_;refine bY 11 (λK hK=> ?_);go_simp;go_at_call 65;refine (zf3 f0 (aO G YD) _ QA.o.1 QA.o.2).mono ?_;rintro e az ⟨rfl,QD⟩;simp only[qV];have lA:=aA ux.o.ptr.1;have lL:=aA BX.o.2.hl;have lgf:=(me.o.2.lt gf rfl).2;have l13:=aA Ef.o.1
        have gm:az.cell? ⟨A,0,none⟩=some (aF bl)/\az.cell? ⟨bl,1,none⟩=some (.slice (some ⟨gf,0,none⟩) L.fO.length capf)/\az.cell? ⟨gf,0,none⟩=some (.int .u64 f0.1)/\az.cell? ⟨gf,1,none⟩=some (.int .u64 f0.2)/\az.cell? ⟨g13,0,none⟩=some (.int .u64 (aO G YD).1)/\az.cell? ⟨g13,1,none⟩=some (.int .u64 (aO G YD).2):=
         ⟨(aG QD _ lA).trans yA,(aG QD _ lL).trans yL,(aG QD _ lgf).trans y0,(aG QD _ lgf).trans y1,(aG QD _ l13).trans y2,(aG QD _ l13).trans y3⟩
        refine hK.out _ _ (λ_=>gm) ?_;clear hK K Hc;have Hc:=gm;obtain⟨z0,z1,z2,z3,z4,z5⟩:=gm;have oq:=(show az.ownsRow 0 176 2 _ _ _ from aU me.o.2 λg hg=>QD.block g (me.o.2.lt g hg).2);have q0:=oq.frozenAt 0;have q1:=oq.frozenAt 1;clear oq;refine zzAF ?_;refine aE 12 Hc ?_;refine bY 13 (λK hK=> ?_);go_simp;refine hK.out _ _ (λh=>absurd rfl h) ?_;clear hK K Hc;refine zzAF ?_;refine zzAg ?_;go_wp2;go_meet
        case rel=>
         have hf:=jC.first BX.o.1 BX.o.2 (show Below w11.heap.size w11 az from⟨QD.os,QD.tape,QD.output,QD.size,QD.block⟩) gf capf me.o.1 f0 fr AP.o (f0.or (aO G YD));exact⟨tag11,hf.1,hf.2⟩
       case rest=>
        obtain⟨tF,F9,Mo⟩:=hcut;have Ea:=ux.o.next Mo;have KT:(s1.fI p1).cL.length=s1.cL.length:=rfl;have Hh:InSt G f i (s1.fI p1) L3 w A bl bm (Hd++[ab]++Jd) s.cL.length {L with cL:=s1.cL,fO:=L.fO.modify 0 (aZ.or · (aO G YD))} tF wc:=by
         have e1:L.fO.modify 0 (aZ.or · (aO G YD))=f0.or (aO G YD)::fr:=by rw[AP.o];rfl
         refine⟨by rw[e1];exact F9,Ea,by have h:=tM.o;rw[HO.o.lb] at h;exact h,HO.o.lr,by rw[List.length_modify];exact HO.o.lf,?_,rfl⟩;rw[e1];intro y hy
         rcases List.mem_cons.1 hy with rfl|hy
         . exact or_ok QA.o.1 QA.o.2
         exact HO.o.fok y (by rw[AP.o];exact List.mem_cons_of_mem _ hy)
        have qo:s.cL.length<=s1.cL.length:=YE.o.2.2.1.2.1;have XZ:=zh Hh;have Ms:(Hd++[ab]++Jd).length=(s1.fI p1).kN.length:=by obtain⟨_,_,_,_,_,_,_,hk,_⟩:=F9;exact hk.la
        have Lc:=zh Ms;clear Hh Mo F9 Ea yA yL y0 y1 y2 y3 Yn QR BX me Ef Ms;have yp:=HO.o.pos;go_upto_region 19 with fail
        obtain⟨xo,KK⟩:=zE (Hd++[ab]++Jd);rw[<-KK] at XZ Lc;clear KK;go_loopw [15] (λs15 wr2=>∃ (n:Nat) (Ln:iT) (tagn:Nat->Nat),s15=.int .i64 n/\s.cL.length<=n/\n<=s1.cL.length/\InSt G f i (s1.fI p1) L3 w A bl bm xo n Ln tagn wr2) (λs15 _=>s1.cL.length-(RowKit.intOf s15).toNat)
        case atStart=>exact⟨_,_,tF,rfl,bR,qo,XZ.o⟩
        case round=>
         obtain⟨n,Ln,tagn,rfl,QR,XG,hI⟩:=hrel;have HI:=zh hI;clear hI XZ;obtain⟨vsn,vcn,vfn,vrn,vbn,cvsn,bvsn,Mc,UB⟩:=HI.o.lay;have yA:=zq 0 HI.o.own.ptr.1;have yL:=zq 0 UB.hl;have yM:=zq 1 UB.hm;have lA:=aA HI.o.own.ptr.1;have lL:=aA UB.hl;obtain⟨gc2,capc2,Rv,ZW⟩:∃ g cap,vcn=.slice (some ⟨g,0,none⟩) s1.cL.length cap/\s1.cL.length<=cap:=by
          rcases aY UB.rc with⟨_,h0⟩|⟨g,cap,e,h1,_⟩
          . omega
          exact⟨g,cap,e,h1⟩
         rw[Rv] at yL;have Z0:(s1.cL.length:Int)<=9223372036854775807:=by
          have:s1.cL.length<=maxLen:=by rcases UB.rc.2 with⟨_,h⟩|⟨_,_,_,_,_,_,h,h',_⟩<;>(have h2:(s1.fI p1).cL.length=s1.cL.length:=rfl)<;>omega
          exact zzBs
         by_cases hltn:n<s1.cL.length
         . have hzn:=zt n s1.cL.length
           have JA:(s1.fI p1).bE.length=s1.cL.length:=by
            exact zzBL
           obtain⟨j,hj⟩:∃ j,(s1.fI p1).bE[n]?=some j:=⟨(s1.fI p1).bE[n],zLe zo⟩;obtain⟨Lp,LB⟩:=UB.bb n j zo hj;have hjG:j<(s1.fI p1).kN.length:=by rw[<-Lc.o];exact Lp
           obtain⟨aj,ZD⟩:=zE (xo.getD j 0);rw[<-ZD] at LB;obtain⟨gb,capb,NK⟩:∃ g cap,vbn=.slice (some ⟨g,0,none⟩) s1.cL.length cap:=by
            rcases aY UB.rb with⟨_,h0⟩|⟨g,cap,e,h1,_⟩
            . omega
            exact⟨g,cap,by rw[<-JA];exact e⟩
           have Xm:=UB.rb;rw[NK] at Xm yM;have J7:wr.cell? ⟨gb,n,none⟩=some (aF aj):=aJ (by rw[JA] at Xm;exact Xm) n _ LB;have Ha:=HI.o.rest;have UT:(s1.fI p1).bE.drop n=j::(s1.fI p1).bE.drop (n+1):=by rw[List.drop_eq_getElem_cons zo];congr 1;rw[zLe zo] at hj;exact zO hj
           rw[UT,gB] at Ha;cases Ez:dfs G f j [] with
           | none=>rw[Ez] at Ha;cases Ha
           | some lj=>
           rw[Ez] at Ha;simp only at Ha;have SL:∀ j,aX G j<128:=by rw[HG.o];exact Wr.o
           have IW:lj.length<=1000000:=by
            have h:=zfh (G:=(s1.fI p1).kN) Mc.wf (by rw[<-HG.o];exact Ez) hjG;exact zT h YE.o.1.2.1
           have Hj:=zfQ (s1.fI p1).kN Wr.o f j lj wr tagn xo vsn (by rw[<-HG.o];exact Ez) Mc hjG IW;rw[<-ZD,<-HG.o] at Hj;have uf:=zh Hj;have LG:=zh (zAi UB Mc);have Ye:=zh Ha;clear Hj UB Mc Ha Ez UT hj Lp LB ZD NK Xm JA IW Rv;go_upto_region 22 with (go_at_call 64;refine uf.o.mono ?_;rintro e Ki ⟨rfl,Xr,TK,J4⟩;simp only[qV])
           have Uy:=LG.o.1.keep1 (λb hb _ h7=>J4.keep b hb zo) J4.tags;have Uw:jC Ki Xr bl bm xo (s1.fI p1) (Ln.rU++List.replicate ((s1.fI p1).cL.length-n) (-1)) Ln.fO:=⟨vsn,vcn,vfn,vrn,vbn,cvsn,bvsn,by rw[HG.o] at TK;exact TK,Uy⟩;have JZ:=(show iA Xr bl bm Ki (s1.fI p1) (Ln.rU++List.replicate ((s1.fI p1).cL.length-n) (-1)) Ln.fO xo Xr Ki from⟨Uw,eA.refl _ _⟩).alloc0 (.cells #[.int .u64 (aO G lj).1,.int .u64 (aO G lj).2] 176)
           have KF:=(HI.o.own.next (eA.of_d J4)).next JZ.upd;have Ht:(Ki.alloc (.cells #[.int .u64 (aO G lj).1,.int .u64 (aO G lj).2] 176)).heap[Ki.heap.size]?=some (.cells #[.int .u64 (aO G lj).1,.int .u64 (aO G lj).2] 176 (0,0)):=by rw[aV,zP rfl]
           obtain⟨g16,Dm⟩:=zE (Ki.heap.size);have Ic:dI Xr Ki.heap.size 0 g16=0:=by rw[Dm];simp[dI]
           rw[<-Dm] at Ht Ic ⊢;rw[<-Dm] at JZ KF;generalize Ki.alloc (.cells #[.int .u64 (aO G lj).1,.int .u64 (aO G lj).2] 176)=XL at*;generalize dI Xr g16 0=p7 at*;have Wl:=zh JZ.lay;have Ah:=zh KF;clear Dm Uy Uw JZ KF TK J4 LG uf yA yL yM lA lL J7;obtain⟨vs16,vc16,vf16,vr16,vb16,cvs16,bvs16,Ma,UA⟩:=Wl.o;have Cl:=HI.o.lf;obtain⟨gf2,capf2,DU,hcf2⟩:∃ g cap,vf16=.slice (some ⟨g,0,none⟩) Ln.fO.length cap/\Ln.fO.length<=cap:=by
            rcases aY UA.rf with⟨_,h0⟩|⟨g,cap,e,h1,_⟩
            . omega
            exact⟨g,cap,e,h1⟩
           have tj:=UA.rf;rw[DU] at tj;have yA:=zq 0 Ah.o.ptr.1;have yL:=zq 1 UA.hl;have y2:=zq 0 Ht;have y3:=zq 1 Ht;rw[DU] at yL;have JR:=zh (zAi Ma UA);have FW:=zh (zAi DU tj);have Um:=zh (zAi Ht Ic);have ZN:Ln.fO.length+1<=1000000000:=by
            have h1:s1.cL.length<=1000000:=YE.o.1.2.2;omega
           clear Ma UA DU tj Ht Ic Cl;go_cut [] from 112 to 121 (λwx=>∃ Kh,jC wx Kh bl bm xo (s1.fI p1) (Ln.rU++List.replicate ((s1.fI p1).cL.length-n) (-1)) (Ln.fO++[aO G lj])/\eA p7 Kh XL wx)
           case first=>
            refine zzAl ?_;refine bV (λw'=>w'.cell? ⟨A,0,none⟩=some (aF bl)/\w'.cell? ⟨bl,1,none⟩=some (.slice (some ⟨gf2,0,none⟩) Ln.fO.length capf2)/\w'.cell? ⟨g16,0,none⟩=some (.int .u64 (aO G lj).1)/\w'.cell? ⟨g16,1,none⟩=some (.int .u64 (aO G lj).2)) 10 zr ⟨yA,yL,y2,y3⟩ (λHc=> ?_);refine zzAD ?_;refine aE 5 Hc ?_;refine bY 6 (λK hK=> ?_);go_simp;have lA:=aA Ah.o.ptr.1;have lL:=aA JR.o.2.hl;have l16:=aA Um.o.1;have Bd:Below XL.heap.size XL (XL.alloc (.cells #[.int .u64 (aO G lj).1,.int .u64 (aO G lj).2] 176)).drew:=((zBr _ XL).alloc bR _).drew
            have hSa:(XL.alloc (.cells #[.int .u64 (aO G lj).1,.int .u64 (aO G lj).2] 176)).drew.cell? ⟨A,0,none⟩=some (aF bl)/\(XL.alloc (.cells #[.int .u64 (aO G lj).1,.int .u64 (aO G lj).2] 176)).drew.cell? ⟨bl,1,none⟩=some (.slice (some ⟨gf2,0,none⟩) Ln.fO.length capf2)/\(XL.alloc (.cells #[.int .u64 (aO G lj).1,.int .u64 (aO G lj).2] 176)).drew.cell? ⟨g16,0,none⟩=some (.int .u64 (aO G lj).1)/\(XL.alloc (.cells #[.int .u64 (aO G lj).1,.int .u64 (aO G lj).2] 176)).drew.cell? ⟨g16,1,none⟩=some (.int .u64 (aO G lj).2):=
             ⟨(aG Bd _ lA).trans yA,(aG Bd _ lL).trans yL,(aG Bd _ l16).trans y2,(aG Bd _ l16).trans y3⟩
            refine hK.out _ _ (λ_=>hSa) ?_;clear hK K Hc;refine zzAF ?_;refine bY 7 (λK hK=> ?_)
            refine mB zr _ _ zr elemSet (.slice (some ⟨gf2,0,none⟩) Ln.fO.length capf2) Ln.fO.length (setCells Ln.fO) zr (by exact (FW.o.2.alloc _).drew) ⟨XL.heap.size,0,none⟩ 1 1 [.int .u64 (aO G lj).1,.int .u64 (aO G lj).2] zr zr (cI XL #[.int .u64 (aO G lj).1,.int .u64 (aO G lj).2] 176 XL.heap.size rfl) zzAU zd ZN zd ?_;intro v1 w1b qc QE YI;obtain⟨gz,cz,rfl⟩:=cH qc
            have tgf:p7 gf2=6:=JR.o.2.t6 gf2 (by rw[FW.o.1];rfl);have Yr:∀ b,b<XL.heap.size->p7 b≠6->w1b.heap[b]?=XL.heap[b]?:=λb hb ht=>(QE.block b (zLd hb Bd.size) (λe=>ht (by cases e;exact tgf))).trans (Bd.block b hb);have Yg:∀ x:Addr,x.block<XL.heap.size->p7 x.block≠6->w1b.cell? x=XL.cell? x:=λx hb ht=>by unfold World.cell?;rw[Yr _ hb ht]
            have Sr:w1b.cell? ⟨A,0,none⟩=some (aF bl)/\w1b.cell? ⟨bl,1,none⟩=some (.slice (some ⟨gf2,0,none⟩) Ln.fO.length capf2)/\w1b.cell? ⟨g16,0,none⟩=some (.int .u64 (aO G lj).1)/\w1b.cell? ⟨g16,1,none⟩=some (.int .u64 (aO G lj).2):=
             ⟨(Yg ⟨A,0,none⟩ lA (by rw[Ah.o.ptr.2];decide)).trans yA,(Yg ⟨bl,1,none⟩ lL zzCq).trans yL,(Yg ⟨g16,0,none⟩ l16 (by rw[Um.o.2];decide)).trans y2,(Yg ⟨g16,1,none⟩ l16 (by rw[Um.o.2];decide)).trans y3⟩
            have Yz:=(Yr bl lL zzCq).trans JR.o.2.hl;have zf:=zF 1 Yz;refine hK.out _ _ (λ_=>Sr) ?_;clear hK K hSa;refine zzAF ?_;refine bY 8 (λK hK=> ?_);go_simp;refine hK.out _ _ (λ_=>Sr) ?_;clear hK K;refine zzAF ?_;refine bY 9 (λK hK=> ?_);go_simp;refine hK.out _ _ (λ_=>Sr) ?_;clear hK K;refine zzAF ?_;obtain⟨x0,x1,x2,x3⟩:=Sr
            refine bY 10 (λK hK=> ?_);go_simp;refine hK.out _ _ (λh=>absurd rfl h) ?_;clear hK K;refine zzAF ?_;refine zzAg ?_;go_wp2;go_meet
            case rel=>
             obtain⟨Kh,vx,hAx,En⟩:=JR.o.2.pushFollow (x:=aO G lj) (.cells #[.int .u64 (aO G lj).1,.int .u64 (aO G lj).2] 176) FW.o.1 qc QE YI;exact⟨Kh,⟨_,_,_,_,_,_,_,hAx.kat JR.o.1 zd zzCq,En⟩,hAx.lupd zd zzCq⟩
           case rest=>
            obtain⟨Kh,Sm,Zv⟩:=hcut;have UC:=Ah.o.next Zv;have Xw:(s1.fI p1).cL.length-n=(s1.cL.length-(n+1))+1:=by
             have h2:(s1.fI p1).cL.length=s1.cL.length:=rfl;omega
            have ic:(aO G lj).Ok:=zat zo _;have NT:=mF n;cases Y4:jZ G lj with
            | false=>
             have Uu:InSt G f i (s1.fI p1) L3 w A bl bm xo (n+1) {Ln with fO:=Ln.fO++[aO G lj],rU:=Ln.rU++[-1]} Kh wc:=by
              refine⟨?_,UC,?_,by simp[HI.o.lr],by simp[HI.o.lf],?_,HI.o.cL⟩
              . rw[Xw,keep_mid] at Sm;exact Sm
              . have h:=Ye.o;rw[Y4] at h;exact h
              exact zzCY
             have Tm:=zh Uu;clear Uu Sm Zv UC Xw Y4 yA yL y2 y3;exact zzCS
            | true=>
             obtain⟨vsx,vcx,vfx,vrx,vbx,cvsx,bvsx,hKx,En⟩:=Sm;have Qh:(Ln.rU++List.replicate ((s1.fI p1).cL.length-n) (-1)).length=s1.cL.length:=by
              rw[zLn,List.length_replicate,HI.o.lr];have h2:(s1.fI p1).cL.length=s1.cL.length:=rfl;omega
             obtain⟨gx,capx,Ry⟩:∃ g cap,vrx=.slice (some ⟨g,0,none⟩) (Ln.rU++List.replicate ((s1.fI p1).cL.length-n) (-1)).length cap:=by
              rcases aY En.rr with⟨_,h0⟩|⟨g,cap,e,_,_⟩
              . omega
              exact⟨g,cap,e⟩
             have Vt:=En.setRule gx capx n Ry i;have pn:=En.rr;rw[Ry] at pn;have zA:=zq 0 UC.ptr.1;have zL:=zq 2 En.hl;rw[Ry,Qh] at zL;have zfr:=pn.frozenAt n;obtain⟨cr,jp⟩:∃ u,wc.cell? ⟨gx,n,none⟩=some u:=by
              rw[pn.cellAt n zo];exact⟨_,zLe (by rw[List.length_map,Qh];omega)⟩
             have tgx:Kh gx=4:=En.t4 gx (by rw[Ry];rfl);have hUs:eA Kh Kh wc (wc.setCell ⟨gx,n,none⟩ (.int .i64 i)):=⟨rfl,rfl,rfl,zs,λ_ _=>rfl,λb hb ht=>aD _ _ _ _ (λe=>by rw[show b=gx from e,tgx] at ht;omega)⟩;have Uu:InSt G f i (s1.fI p1) L3 w A bl bm xo (n+1) {Ln with fO:=Ln.fO++[aO G lj],rU:=Ln.rU++[(i:Int)]} Kh (wc.setCell ⟨gx,n,none⟩ (.int .i64 i)):=by
              refine⟨?_,UC.next hUs,?_,by simp[HI.o.lr],by simp[HI.o.lf],?_,HI.o.cL⟩
              . refine⟨vsx,vcx,vfx,vrx,vbx,cvsx,bvsx,hKx.apart (λ_ _=>rfl) (λb hb ht=>aD _ _ _ _ (λe=>by rw[show b=gx from e,tgx] at ht;omega)),?_⟩
                rw[Xw] at Vt;have e:=set_mid Ln.rU (s1.cL.length-(n+1)) i;rw[HI.o.lr] at e;rw[e] at Vt;exact Vt
              . have h:=Ye.o;rw[Y4] at h;exact h
              exact zzCY
             have Tm:=zh Uu;clear Uu hKx En Zv UC Xw Y4 Qh Ry Vt pn tgx hUs yA yL y2 y3;exact zzCS
         have hzn:=zn n s1.cL.length
         have YS:n=s1.cL.length:=zo
         have Ha:=HI.o.rest;have JA:(s1.fI p1).bE.length=s1.cL.length:=by
          exact zzBL
         rw[List.drop_eq_nil_of_le zo,gB] at Ha;cases Ha;have Oq:=HI.o.lay;rw[show (s1.fI p1).cL.length-n=0 from by omega,List.replicate_zero,List.append_nil] at Oq;have hO2:OutV f sT R w A bl bm (i+1) (s1.fI p1) L3 xo tagn wr:=
          ⟨Oq,HI.o.own.upd,HI.o.own.ptr,HI.o.own.err,HI.o.own.aQ,LU.o,HI.o.cL,by rw[HI.o.lr,YS];rfl,by rw[HI.o.lf,YS];rfl,JA,zo,YE.o.2.1.fI p1,HI.o.fok⟩
         have ez:=zh hO2;have Xp:=mF i;clear hO2 Oq JA Mc UB YS;go_wp2_with fail;go_roundw
         case rel=>exact⟨i+1,_,_,_,_,by go_num,zo,ez.o⟩
         case measure=>exact zY
    have hz:=zn i sT.length
    have YP:i=sT.length:=zo
    have HR:=zh (HO.o.rest.end' YP);have cA:=zq 0 HO.o.ptr.1;have cB:=zq 0 HO.o.err.1;have fA:=zF 0 HO.o.ptr.1;have fB:=zF 0 HO.o.err.1;have lA:=aA HO.o.ptr.1;have lB:=aA HO.o.err.1;have nAB:A≠A+1:=zo
    clear YP;go_wp2_with fail;have Cb:Below w.heap.size w wr:=⟨HO.o.upd.os,HO.o.upd.tape,HO.o.upd.output,HO.o.upd.size,λb hb=>HO.o.upd.keep b hb (.inl rfl)⟩;have W6:w.heap.size<=A:=by rw[HA.o];exact bR
    have Hg:Below w.heap.size w ((wr.setCell ⟨A,0,none⟩ (aF bl)).setCell ⟨A+1,0,none⟩ .nilIface):=(Cb.setCell (p:=(⟨A,0,none⟩:Addr)) W6 _).setCell (p:=(⟨A+1,0,none⟩:Addr)) (by show w.heap.size<=A+1;omega) _;have hA9:((wr.setCell ⟨A,0,none⟩ (aF bl)).setCell ⟨A+1,0,none⟩ .nilIface).heap[A]?=some (.cells #[aF bl] 90 (0,0)):=by
     rw[aD _ _ _ _ zs,aB _ A 0 _ _ _ _ HO.o.ptr.1];rfl
    have hB9:((wr.setCell ⟨A,0,none⟩ (aF bl)).setCell ⟨A+1,0,none⟩ .nilIface).heap[A+1]?=some (.cells #[.nilIface] 51 (0,0)):=by
     rw[aB _ (A+1) 0 _ _ _ _ ((aD _ _ _ _ zs).trans HO.o.err.1)];rfl
    have Jl:∀ b,b≠A->b≠A+1->((wr.setCell ⟨A,0,none⟩ (aF bl)).setCell ⟨A+1,0,none⟩ .nilIface).heap[b]?=wr.heap[b]?:=λb h1 h2=>by rw[aD _ _ _ _ h2,aD _ _ _ _ h1]
    have K2:xD ((wr.setCell ⟨A,0,none⟩ (aF bl)).setCell ⟨A+1,0,none⟩ .nilIface) bl L:=by
     obtain⟨vs9,vc9,vf9,vr9,vb9,cvs9,bvs9,Sk,tU⟩:=HO.o.lay;have tn:∀ b c,tag b=c->c≠0->b≠A/\b≠A+1:=λb c h hc=>⟨λe=>by rw[e,HO.o.ptr.2] at h;omega,λe=>by rw[e,HO.o.err.2] at h;omega⟩;refine⟨vc9,vf9,vr9,cvs9,(Jl bl (tn bl 1 tU.tl zd).1 (tn bl 1 tU.tl zd).2).trans tU.hl,?_,λi c hc=> ?_,?_,?_⟩
     . rw[HO.o.cL];exact aU tU.rc λg hg=>Jl g (tn g 3 (tU.t3 g hg) zd).1 (tn g 3 (tU.t3 g hg) zd).2
     . rw[HO.o.cL] at hc
       obtain⟨cv,k1,k2,k3⟩:=tU.cc i c hc;exact⟨cv,k1,aU k2 λg hg=>Jl g (tn g 7 (k3 g hg) zd).1 (tn g 7 (k3 g hg) zd).2⟩
     . exact aU tU.rr λg hg=>Jl g (tn g 4 (tU.t4 g hg) zd).1 (tn g 4 (tU.t4 g hg) zd).2
     exact aU tU.rf λg hg=>Jl g (tn g 6 (tU.t6 g hg) zd).1 (tn g 6 (tU.t6 g hg) zd).2
    generalize (wr.setCell ⟨A,0,none⟩ (aF bl)).setCell ⟨A+1,0,none⟩ .nilIface=w9 at*;refine zzA1 ?_;refine (zhD ⟨A+1+1,0,none⟩ ⟨A,0,none⟩ ⟨A+1,0,none⟩ w9).mono ?_;rintro r' u' w5 ⟨rfl,rfl,rfl⟩;have ca5:=bF w5 _ 0 _ _ _ hA9;have cb5:=bF w5 _ 0 _ _ _ hB9;simp at ca5 cb5;simp[Leaves,settle,results,results29,go_sem,ca5,cb5];unfold LayRO;rw[HR.o];simp_all
inductive CmpV where
 | ok (T:dX)
 | err (e:Nat) (i k:Int)
def CmpR (V:CmpV) (w:ω) (e:Ending) (w':ω):Prop:=w.u w'/\match V with
 | .ok T=>∃ cb tb bc cc br cr bg cg,e=ρ (ϕ #[aF cb,.nilIface])/\w'.h cb #[aF tb] 97/\gM w'.t w' tb T bc cc br cr bg cg/\w.t<=tb/\w.t<=cb
 | .err er i k=>er≠0/\∃ v,e=ρ (ϕ #[Φ none,v])/\yN w' v er i k
structure MakeOk (L:iT):Prop where
 pos:0<I L.cL
 max:I L.cL<=65
 ranges:∀ c∈L.cL,iF c
 cU:I (fJ L.cL)<1000000
 lr:I L.rU=I L.cL
 lf:I L.fO=I L.cL
 fok:∀ x∈L.fO,x.Ok
def LayCmp (R:qX) (V:CmpV):Prop:=match R with
 | .err e i k=>e≠0/\V=.err e i k
 | .ok _ L=>MakeOk L/\((cO L ((bG L.cL).map (bP L.cL)) 202 [(1,0)] [] []=none/\V=.err 7 (-1) (-1))\/
  ∃ rU gO T,cO L ((bG L.cL).map (bP L.cL)) 202 [(1,0)] [] []=some (rU,gO)/\MakeH L T rU gO/\V=.ok T)
theorem cmp_count (sT:List η) (w:ω) (g cap:Nat) (hn:I sT<1\/8<I sT) (hl:I sT<=900000):
 Γ 16 #[σ g (I sT) cap] w (CmpR (.err 1 (-1) (-1)) w):=by
 have Hg:CmpR (.err 1 (-1) (-1)) w (ρ (ϕ #[Φ none,Δ 86 (ι 1)])) w:=⟨iM,zd,_,rfl,.num 1 zd⟩;have HF:=zh Hg;clear Hg;by_cases h1:I sT<1
 . have z1:(I sT:Int)<1:=zo
   clear hn;go_in;go_wp2;exact bodyPost_ret (v:=ϕ #[Φ none,Δ 86 (ι 1)]) zzAX rfl HF.o
 have z1:¬ (I sT:Int)<1:=zo
 have:(8:Int)<(I sT:Int):=zo
 clear hn;go_in;go_wp2;exact bodyPost_ret (v:=ϕ #[Φ none,Δ 86 (ι 1)]) zzAX rfl HF.o
theorem cmp_size (sT:List η) (w:ω) (g cap i:Nat) (s:η) (hn:1<=I sT/\I sT<=8) (Hb:w.r 9 1 (σ g (I sT) cap) (I sT) (sT.map Value.string))
 (hs:sT[i]?=some s) (hb:60<s.size) (hf:∀ (j:Nat) (u:η),j<i->sT[j]?=some u->u.size<=60):
 Γ 16 #[σ g (I sT) cap] w (CmpR (.err 1 i 0) w):=by
 have:¬ (I sT:Int)<1:=zo
 have:=(Hb.lt g rfl).2;have Hw:=zh Hb;have HS:=zh hs;have HB:=zh hb;have HF:=zh hf;have:=pO hs;clear Hb hs hb hf;go_in;go_wp2;go_loopw [21] (λp6 wr=>∃ j:Nat,p6=ι j/\j<=i/\wr=w) (λp6 _=>I sT-(ϑ p6).toNat)
 case atStart=>grind
 case round=>
  obtain⟨j,rfl,hj,rfl⟩:=hrel;have:=zt j (I sT)
  have:=mF j;by_cases Hf:j<i
  . obtain⟨u,hu⟩:=zG sT j zo
    have YA:=aJ Hw.o j (γ u) zg;have h60:(u.size:Int)<=60:=by have:=HF.o j u Hf hu;omega
    clear hu;go_wp2
    grind [RowKit.intOf]
  obtain rfl:j=i:=by omega
  have YA:=aJ Hw.o j (γ s) (by rw[List.getElem?_map,HS.o];rfl);have h60:¬ (s.size:Int)<=60:=by have:=HB.o;omega
  have:(60:Int)<(s.size:Int):=by have:=HB.o;omega
  go_wp2;refine bodyPost_ret (v:=ϕ #[Φ none,Δ 87 (π wr.t)]) zzAX rfl ?_;exact⟨iM.alloc bR _,zd,_,rfl,.fault _ 1 _ _ zd (bA _ _ _ rfl)⟩
theorem zd5 (sT:List η) (w:ω) (g cap f:Nat) (R:qX) (V:CmpV) (hn:1<=I sT/\I sT<=8) (E5:∀ s∈sT,s.size<=60) (Hb:w.r 9 1 (σ g (I sT) cap) (I sT) (sT.map Value.string))
 (hT:oK w) (hW:Wid w) (hG:jV<=w.t) (hE:ErrT w) (hv:uR f sT R 0 kW kX) (hV:LayCmp R V):
 Γ 16 #[σ g (I sT) cap] w (CmpR V w):=by
 have Hw:=zh Hb;have HT:=Θ hT hW;have Xt:=zh E5;have HV:=zh hV;have BV:=zh (layAll_v f sT R w g cap Hb E5 hn.2 hT hG hE hv);have:¬ (I sT:Int)<1:=zo
 have:(I sT:Int)<=8:=zo
 have:=(Hb.lt g rfl).2;clear Hb hT hW E5 hV hv hE hn;go_in;go_wp2_with fail;go_loopw [21] (λp6 wr=>∃ i:Nat,p6=ι i/\i<=I sT/\wr=w) (λp6 _=>I sT-(ϑ p6).toNat)
 case atStart=>grind
 case round=>
  obtain⟨i,rfl,hi,rfl⟩:=hrel;by_cases Hf:i<I sT
  . have hz:=zt i (I sT)
    obtain⟨s,hs⟩:=zG sT i Hf;have:=aJ Hw.o i (γ s) zg;have:(s.size:Int)<=60:=by have:=Xt.o s (zM hs);omega
    have:=mF i;clear hs;go_wp2_with fail
    grind [RowKit.intOf]
  have hz:=zn i (I sT)
  cases R with
  | err er i2 k2=>
   obtain⟨he,rfl⟩:=HV.o;go_wp2_with (first|(go_at_call 29;refine BV.o.mono ?_;rintro e w1 ⟨Hk,b,rfl,Ya,hb⟩;have H1:=Θ Hk Ya;clear Hk Ya));refine bodyPost_ret (v:=ϕ #[Φ none,Δ 87 (π b)]) zzAX rfl ?_;exact⟨H1.o.1,he,_,rfl,.fault b er _ _ he H1.o.2⟩
  | ok s2 L=>
   obtain⟨By,Jn⟩:=HV.o;have Y9:=zh By;have Wj:=zh Jn;clear By Jn;go_upto_region 12 with (go_at_call 29;refine BV.o.mono ?_;rintro e w1 ⟨Hk,bl,rfl,VN⟩;have H1:=Θ Hk VN;clear Hk VN);have Si:=zT hG H1.o.1.size;have Kv:=zh Si
   rcases Wj.o with⟨K4,rfl⟩|⟨rU,gO,T,K4,hmh,rfl⟩
   . have IF:zH (Γ 30 #[aF bl] w1 λe w'=>e=ρ (ϕ #[Φ none,φ false])/\w1.u w'):=zh ((make_v L bl w1 H1.o.2 Y9.o.pos Y9.o.max Y9.o.ranges (HT.o.2.below H1.o.1 hG) Kv.o Y9.o.cU Y9.o.lr Y9.o.lf Y9.o.fok none K4 ⟨[],[],[],0⟩ (λ_ _ h=>by cases h)).mono (by
      rintro e w2 (⟨_,h1,h2⟩|⟨⟨p,hp⟩,_⟩)
      all_goals grind))
     clear K4;go_wp2_with (first|(go_at_call 30;refine IF.o.mono ?_;rintro e w2 ⟨rfl,Hm⟩;have H2:=zh Hm;clear Hm));refine bodyPost_ret (v:=ϕ #[Φ none,Δ 86 (ι 7)]) zzAX rfl ?_;exact⟨oB H1.o.1 H2.o H1.o.1.size,zd,_,rfl,.num 7 zd⟩
   have IF:zH (Γ 30 #[aF bl] w1 (MakeO T w1)):=zh ((make_v L bl w1 H1.o.2 Y9.o.pos Y9.o.max Y9.o.ranges (HT.o.2.below H1.o.1 hG) Kv.o Y9.o.cU Y9.o.lr Y9.o.lf Y9.o.fok _ K4 T (λr2 g2 h=>by cases h;exact hmh)).mono (by
    rintro e w2 (⟨h,_⟩|⟨_,h⟩)
    . cases h
    exact h))
   clear K4 hmh;go_wp2_with (first|(go_at_call 30;refine IF.o.mono ?_;rintro e w2 ⟨tb,bc,cc,br,cr,bg,cg,rfl,JG,Rk,Hm⟩;have H2:=Λ JG Rk Hm;clear JG Rk Hm));refine bodyPost_ret (v:=ϕ #[aF w2.t,.nilIface]) zzAX rfl ?_;have hb:=oB H1.o.1 H2.o.2.2 H1.o.1.size;have Hu:=hb.alloc hb.size (Ω #[aF tb] 97)
   exact⟨Hu,w2.t,tb,bc,cc,br,cr,bg,cg,rfl,bA _ _ _ rfl,(H2.o.1.below (Ξ w2 _)).mono zs,zT H1.o.1.size H2.o.2.1,hb.size⟩
