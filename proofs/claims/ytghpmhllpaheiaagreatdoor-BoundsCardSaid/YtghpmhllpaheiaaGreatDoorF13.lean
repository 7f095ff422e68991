/- Part of a proof. No condition. -/
import Derived.Test.YtghpmhllpaheiaaGreatDoorF03
import Derived.Test.YtghpmhllpaheiaaGreatDoorF12
set_option linter.unusedVariables false
set_option linter.unusedSimpArgs false
set_option maxRecDepth 100000
set_option maxHeartbeats 4000000
namespace Go.Proofs.YtghpmhllpaheiaaGreatDoor
open Go.RowKit Go.Lib
variable {bp q B W F:Nat} {s:ByteArray} {w wr w' a b:World} {l:List (Int×Int)} {sl v:Value} {S:Nat->Prop} {t:aJ} {vs:List Value}
theorem edge' (bp:Nat) (s:ByteArray) (p:Nat) (w:World) (h:PS bp s p w):
 Calls Tryz.prog 165 #[.pointer (some ⟨bp,0,none⟩)] w (Out bp s w (λc v _=>v=.int .i32 c) (lJ s p)):=
 edge_any bp s p w h λw hw=>zbJ bp s p w hw
structure CK (bp:Nat) (s:ByteArray) (w:World) (l:List (Int×Int)) (q:Nat) (sl:Value) (wr:World):Prop where
 cL:fN wr sl l
 fresh:∀ g,sl.ownBlock=some g->w.heap.size<=g
 nil:l=[]->sl=.slice none 0 0
 ps:PS bp s q wr
 grown:w.grownBy wr (some bp)
theorem CK.below (h:CK bp s w l q sl wr) (hb:Below wr.heap.size wr w'):CK bp s w l q sl w':=
 ⟨zdH h.cL hb,h.fresh,h.nil,h.ps.below hb,aD h.grown (aF hb _)⟩
theorem CK.next {q':Nat} (h:CK bp s w l q sl wr) (x7:bp<w.heap.size) (hg:wr.grownBy w' (some bp)) (hp:PS bp s q' w'):CK bp s w l q' sl w':=
 ⟨aU h.cL (λg vl=>hg.block g (h.cL.lt g vl).2 (by have:=h.fresh g vl;intro e;cases e;omega)),h.fresh,h.nil,hp,aD h.grown hg⟩
theorem CK.alloc (h:CK bp s w l q sl wr) (o:Obj):CK bp s w l q sl (wr.alloc o):=
 h.below ((zBr _ wr).alloc (zR _) o)
theorem mW {r:Option Nat} (hg:a.grownBy b r) (hr:∀ g,r=some g->w.heap.size<=g) (hs:w.heap.size<=a.heap.size) (h:w.grownBy a (some bp)):w.grownBy b (some bp):=
 ⟨hg.os.trans h.os,hg.tape.trans h.tape,hg.output.trans h.output,zT h.size hg.size,λk hk Gx=>(hg.block k (zLd hk hs) (λe=>by have:=hr k e.symm;omega)).trans (h.block k hk Gx)⟩
theorem PS.apart {p:Nat} {r:Option Nat} (h:PS bp s p a) (hg:a.grownBy b r) (hr:∀ g,r=some g->bp<g):PS bp s p b:=
 ⟨(hg.block bp h.lt (λe=>by have:=hr bp e.symm;omega)).trans h.aQ,zba h.tabs λx hx=>World.cell?_of_block (w:=a) (hg.block x.block (by have:=h.lt;have:=h.glob;omega) (λe=>by have:=hr _ e.symm;have:=h.glob;omega)),h.glob,h.size,h.le⟩
theorem CK.append {v':Value} {x1 x2:Int} (h:CK bp s w l q sl wr) (x7:bp<w.heap.size)
 (Hb:w'.ownsRow 0 210 2 v' (l.length+1) (flat l++[.int .i32 x1,.int .i32 x2])) (hg:wr.grownBy w' sl.ownBlock) (hb:v'.ownBlock=sl.ownBlock\/v'.ownBlock=some wr.heap.size):CK bp s w (l++[(x1,x2)]) q v' w':=
 ⟨oM Hb,fW hb h.fresh h.grown.size,λe=>absurd e (by simp),h.ps.apart hg (λg UE=>by have:=h.fresh g UE;omega),mW hg h.fresh h.grown.size h.grown⟩
theorem CK.lt (h:CK bp s w l q sl wr):∀ g,sl.ownBlock=some g->g<wr.heap.size:=λg hg=>(h.cL.lt g hg).2
theorem CK.set (h:CK bp s w l q sl wr) (hB:∀ g,sl.ownBlock=some g->g≠B) (hw:w.heap.size<=B) (x7:bp<w.heap.size) (o:Nat) (v:Value):CK bp s w l q sl (wr.setCell ⟨B,o,none⟩ v):=
 have hg:=eO wr B o v
 ⟨aU h.cL (λg vl=>hg.block g (h.lt g vl) (λe=>hB g vl (by cases e;rfl))),h.fresh,h.nil,h.ps.apart hg (λg e=>by cases e;omega),mW hg (λg e=>by cases e;exact hw) h.grown.size h.grown⟩
theorem xX {o:Obj} (h:a.heap[B]?=some o) (hb:Below a.heap.size a b):b.heap[B]?=some o:=zcR hb B o h
theorem kU {o:Obj} (h:a.heap[B]?=some o) (hg:a.grownBy b (some bp)) (qo:B≠bp):b.heap[B]?=some o:=(hg.block B (aA h) (λe=>qo (by cases e;rfl))).trans h
theorem iJ {p:Nat} {c:Int} (h:cD s p=.ok c) (h0:0<=c) (h1:c<128):nZ s p=.ok (c,p+1):=by
 rw[nZ,h];have:(Utf8.decode s p).2=1:=by
  rcases uN h with hd|⟨Xq,jd,VW⟩
  . omega
  obtain⟨x,kk,e,hh⟩:=jA s p Xq jd
  rw[e] at VW ⊢;simp only at VW ⊢;omega
 simp[this];omega
theorem zbg (s:ByteArray) (f p:Nat) (l:List (Int×Int)):dM s (f+1) p l=
 if l=[] then
  match iB s p with
  | .error e=>.error e
  | .ok (x,q)=>dM s f q (l++[x])
 else
  match cD s p with
  | .error e=>.error e
  | .ok c=>
   if c=93 then .ok (l,p) else
    match iB s p with
    | .error e=>.error e
    | .ok (x,q)=>dM s f q (l++[x]):=rfl
def ClsV (w:World) (l:List (Int×Int)) (v:Value) (w':World):Prop:=aX (λg=>w.heap.size<=g) w' (.cL l) v
theorem class_any (bp:Nat) (s:ByteArray) (p k:Nat) (w:World) (h:PS bp s p w) (hs:s.size<=60):
 Calls Tryz.prog 141 #[.pointer (some ⟨bp,0,none⟩),.int .i64 k] w (Out bp s w (ClsV w) (dH s p k)):=by
 have H:=zh h;have x7:=h.lt;cases hx:cD s p with
 | error e=>
  have HC:zH (dH s p k=.error e):=zh (by rw[dH,hx]);have hP:=kO bp s p w e h hx;clear h hx;go_enter Tryz.func141,Tryz.ntmps141;go_wp2_with (first|(go_at_call 98;refine hP.mono ?_;rintro e w1 ⟨rfl,Hk⟩));refine⟨rfl,?_⟩;rw[HC.o];exact⟨rfl,aF Hk _⟩
 | ok c0=>
  have hP:=iF bp s p w c0 h hx;obtain⟨a1,a2,a3⟩:=zau hx;obtain⟨p0,Tl⟩:=zE (if c0=94 then p+1 else p)
  have VJ:c0=94->nZ s p=.ok (94,p+1):=by
   rintro rfl;rw[nZ,hx];obtain⟨b1,b2,b3⟩:=a3 (by omega);have:(Utf8.decode s p).2=1:=by
    have hd:=uN hx
    rcases hd with hd|⟨Xq,jd,VW⟩
    . omega
    obtain⟨x,kk,e,hh⟩:=jA s p Xq jd
    rw[e] at VW ⊢;simp only at VW ⊢;omega
   simp[this]
  have HC:zH (dH s p k=match dM s (s.size+2) p0 [] with
   | .error e=>.error e
   | .ok (l,q)=>if c0=94 then (if iL l=[] then .error (3,k) else .ok (iL l,q+1)) else .ok (l,q+1)):=zh (by rw[dH,hx,Tl];rfl)
  have HD:=zh VJ;have mc:=zh Tl;clear VJ Tl h hx a3;go_enter Tryz.func141,Tryz.ntmps141;have START:zH (∀ w1,Below w.heap.size w w1->PS bp s p w1):=zh λw1 hb=>H.o.below hb;have hcut:((c0==94)=true/\c0=94)\/((c0==94)=false/\¬ c0=94):=by
   by_cases h:c0=94
   . exact .inl ⟨by simp[h],h⟩
   exact .inr ⟨by simp[h],h⟩
  rcases hcut with⟨hz,Np⟩|⟨hz,Np⟩
  focus
   go_wp2_with (first|(go_at_call 98;refine hP.mono ?_;rintro e w1 ⟨rfl,Hk⟩;have Tn:=zh (START.o _ Hk))|(go_at_call 99;refine (kS bp s p _ 94 (p+1) Tn.o (HD.o Np)).mono ?_;rintro e w2 ⟨rfl,QZ,qf⟩));have Pz:=mc.o;rw[zP Np] at Pz;rw[<-Pz] at QZ;have YD:=aD (aF Hk _) qf;clear Pz qf;have Rf:=zh (⟨nL _ _ _,λg hg=>(by simp[Value.ownBlock] at hg),λ_=>rfl,QZ,YD⟩:CK bp s w [] p0 (.slice none 0 0) w2);clear QZ YD Tn Hk;clear START hP
  rotate_left
  focus
   go_wp2_with (first|(go_at_call 98;refine hP.mono ?_;rintro e w2 ⟨rfl,Hk⟩));have QZ:=START.o _ Hk;have Pz:=mc.o;rw[zN Np] at Pz;rw[<-Pz] at QZ;have Rf:=zh (⟨nL _ _ _,λg hg=>(by simp[Value.ownBlock] at hg),λ_=>rfl,QZ,aF Hk _⟩:CK bp s w [] p0 (.slice none 0 0) w2);clear QZ Hk Pz;clear START hP
  all_goals
   clear HD mc a1 a2 hz;generalize hR:dM s (s.size+2) p0 []=R at*;go_loopg [6] (s.size+2) (λgh sl wr=>∃ (l:List (Int×Int)) (q f:Nat),f=gh/\f+l.length=s.size+2/\l.length<=q/\(∀ x∈l,0<=x.1/\x.1<=1114111/\0<=x.2/\x.2<=1114111/\x.1<=x.2)/\R=dM s f q l/\CK bp s w l q sl wr)
   case atStart=>exact⟨[],p0,s.size+2,rfl,rfl,zZ _,λx hx=>absurd hx List.not_mem_nil,hR.symm,Rf.o⟩
   case round=>
    obtain⟨l,q,f,Gc,Q3,hlq,Xh,Ht,hK⟩:=hrel;have HK:=zh hK;have XB:=hK.ps.le;have tM:=zh Xh;have ni:=zh Gc;obtain⟨g,hg⟩:∃ g,f=g+1:=⟨f-1,by omega⟩;have J9:=zh hg;rw[hg,zbg] at Ht;clear Gc hg Xh;by_cases hit:l=[]\/∃ c,cD s q=.ok c/\c≠93
    . have Yt:zH (R=match iB s q with
       | .error e=>.error e
       | .ok (x,q)=>dM s g q (l++[x])):=by
       refine zh ?_;rw[Ht]
       rcases hit with QG|⟨c,hc,Je⟩
       . rw[zP QG]
       rw[hc]
       simp only[zN Je,ite_self]
      clear Ht;have Hg:(l=[]/\u6=.slice none 0 0)\/(l≠[]/\(∃ c,cD s q=.ok c/\c≠93)/\∃ g cap,u6=.slice (some ⟨g,0,none⟩) l.length cap/\((l.length:Int)==0)=false):=by
       by_cases QG:l=[]
       . exact .inl ⟨QG,hK.nil QG⟩
       refine .inr ⟨QG,hit.resolve_left QG,?_⟩
       have hz:=List.length_pos_iff.2 QG
       rcases bD hK.cL with⟨_,h⟩|⟨g,cap,h,_⟩
       . omega
       exact⟨g,cap,h,by simp;omega⟩
      clear hit
      rcases Hg with⟨QG,i6⟩|⟨QG,⟨c1,yu,Je⟩,gg,cap,i6,hz⟩
      focus
       subst i6;generalize wr=w2 at*;have VU:=HK;clear HK hK;obtain⟨d0,d1,f1⟩:=VU.o.ps.cells;go_wp2_with (fail)
      rotate_left
      focus
       subst i6;have ot:(c1 != 93)=true:=by simp[Je]
       go_wp2_with (first|(go_at_call 98;refine (iF bp s q _ c1 HK.o.ps yu).mono ?_;rintro e w2 ⟨rfl,Hk⟩;have VU:=zh (HK.o.below Hk);obtain⟨d0,d1,f1⟩:=VU.o.ps.cells));clear ot Hk HK hK hz
      all_goals
       clear d0 d1 f1;cases hi:lJ s q with
       | error e=>
        have hX:dH s p k=.error e:=by rw[HC.o,Yt.o,iB,hi]
        refine (edge' bp s q _ VU.o.ps).mono ?_;intro r w3 hr;rw[hi] at hr;obtain⟨rfl,Q4⟩:=hr;refine⟨rfl,?_⟩;rw[hX];exact⟨rfl,aD VU.o.grown Q4⟩
       | ok loq=>
        obtain⟨lo,q1⟩:=loq;have HI:=zh hi;refine (edge' bp s q _ VU.o.ps).mono ?_;intro r w3 hr;rw[hi] at hr;obtain⟨v,rfl,rfl,yx,Q4⟩:=hr;have JI:=zh (VU.o.next x7 Q4 yx);clear yx Q4 VU hi;go_wp2_with (fail);have pe:=zh (JI.o.alloc (.cells #[.int .i32 lo,.int .i32 lo] 210));have Qa:=(aN w3 (.cells #[.int .i32 lo,.int .i32 lo] 210) w3.heap.size).trans (zP rfl);have Fg:=JI.o.lt;have Fl:w.heap.size<=w3.heap.size:=JI.o.grown.size;clear JI
        generalize w3.alloc (.cells #[.int .i32 lo,.int .i32 lo] 210)=w4 at*;generalize w3.heap.size=B at*;have Fk:B≠bp:=by omega
        have Yn:=zh Fg;clear Fg;cases qe:cD s q1 with
        | error e=>
         have hX:dH s p k=.error e:=by rw[HC.o,Yt.o,iB,HI.o];simp only;rw[qe]
         refine (kO bp s q1 _ e pe.o.ps qe).mono ?_;rintro r w5 ⟨rfl,Yq⟩;refine⟨rfl,?_⟩;rw[hX];exact⟨rfl,aD pe.o.grown (aF Yq _)⟩
        | ok c2=>
         have Qj:=zh qe;by_cases CS:c2=45
         . subst CS
           have Kt:=zh (iJ qe (by decide) (by decide));clear qe;refine (iF bp s q1 _ 45 pe.o.ps Qj.o).mono ?_;rintro r w5 ⟨rfl,Yq⟩;have KG:=zh (pe.o.below Yq);have Tc:=xX Qa Yq;clear Qa Yq pe;go_wp2_with (go_at_call 99;refine (kS bp s q1 _ 45 (q1+1) KG.o.ps Kt.o).mono ?_;rintro e w6 ⟨rfl,UV,kv⟩);have XZ:=zh (KG.o.next x7 kv UV);have FV:=kU Tc kv Fk;clear Tc kv UV KG Kt;cases yn:lJ s (q1+1) with
           | error e=>
            have hX:dH s p k=.error e:=by rw[HC.o,Yt.o,iB,HI.o];simp only;rw[Qj.o];simp only[zP];rw[yn]
            refine (edge' bp s (q1+1) _ XZ.o.ps).mono ?_;intro r w7 hr;rw[yn] at hr;obtain⟨rfl,Gj⟩:=hr;refine⟨rfl,?_⟩;rw[hX];exact⟨rfl,aD XZ.o.grown Gj⟩
           | ok hiq=>
            obtain⟨hi,q2⟩:=hiq;have pd:=zh yn;refine (edge' bp s (q1+1) _ XZ.o.ps).mono ?_;intro r w7 hr;rw[yn] at hr;obtain⟨v,rfl,rfl,SY,Gj⟩:=hr;have nv:=zh (XZ.o.next x7 Gj SY);have Ut:=kU FV Gj Fk;clear FV SY Gj XZ yn;have T9:=zh (nv.o.set (λg hg=>Nat.ne_of_lt (Yn.o g hg)) Fl x7 1 (.int .i32 hi));have FW:=aC w7 B 1 (.int .i32 hi) _ _ _ Ut;have Zi:=aM w7 B 1 _ _ Ut;have W9:=aB w7 B 1 _ _ _ Ut;have oe:=aB _ B 0 _ _ _ FW
            have og:=aB _ B 1 _ _ _ FW;simp only[zLa] at W9 oe og;clear Ut;by_cases Hf:hi<lo
            . have hX:dH s p k=.error (3,q):=by rw[HC.o,Yt.o,iB,HI.o];simp only;rw[Qj.o];simp only[zP];rw[pd.o];simp only[zP Hf]
              have HX:=zh hX;clear hX;go_wp2_with (go_at_call 80;refine (dT 3 q _).mono ?_;rintro e w' ⟨rfl,rfl⟩);refine⟨rfl,?_⟩;rw[HX.o];exact⟨rfl,T9.o.grown⟩
            have A0:iB s q=.ok ((lo,hi),q2):=by rw[iB,HI.o];simp only;rw[Qj.o];simp only[zP];rw[pd.o];simp only[zN Hf]
            have NF:=zh A0;have Xt:=zas A0 (by omega);simp only at Xt;clear A0;go_wp2_with (at_builtin;refine dI rfl lK rfl (by exact (T9.o.alloc _).cL) [Value.int .i32 lo,Value.int .i32 hi] (by omega) ?_;intro v' w' Qw Qp Yi);have aa:=(T9.o.alloc _).append x7 Qw Qp Yi;go_roundg g
            case rel=>
             refine⟨l++[(lo,hi)],q2,g,rfl,by have:=J9.o;have:=ni.o;simp;omega,by simp;omega,?_,?_,aa⟩
             . intro x hx
               rcases List.mem_append.1 hx with hx|hx
               . exact tM.o x hx
               have:=List.mem_singleton.1 hx;subst this;simp only;omega
             . rw[Yt.o,NF.o]
            all_goals (have:=J9.o;have:=ni.o;omega)
         have hX:iB s q=.ok ((lo,lo),q1):=by rw[iB,HI.o];simp only;rw[qe];simp only[zN CS]
         have NF:=zh hX;have Xt:=zas hX (by omega);simp only at Xt;clear hX qe;refine (iF bp s q1 _ c2 pe.o.ps Qj.o).mono ?_;rintro r w5 ⟨rfl,Yq⟩;have KG:=zh (pe.o.below Yq);have Tc:=xX Qa Yq;have oa:=aB w5 B 0 _ _ _ Tc;have oc:=aB w5 B 1 _ _ _ Tc;simp only[zLa] at oa oc;have SV:(c2==45)=false:=by simp[CS]
         clear Qa Yq pe Tc;go_wp2_with (at_builtin;refine dI rfl lK rfl (by exact (KG.o.alloc _).cL) [Value.int .i32 lo,Value.int .i32 lo] (by omega) ?_;intro v' w' Qw Qp Yi);have aa:=(KG.o.alloc _).append x7 Qw Qp Yi;go_roundg g
         case rel=>
          refine⟨l++[(lo,lo)],q1,g,rfl,by have:=J9.o;have:=ni.o;simp;omega,by simp;omega,?_,?_,aa⟩
          . intro x hx
            rcases List.mem_append.1 hx with hx|hx
            . exact tM.o x hx
            have:=List.mem_singleton.1 hx;subst this;simp only;omega
          . rw[Yt.o,NF.o]
         all_goals (have:=J9.o;have:=ni.o;omega)
    have QG:l≠[]:=λe=>hit (.inl e)
    obtain⟨gg,cap,i6,hz⟩:∃ g cap,u6=.slice (some ⟨g,0,none⟩) l.length cap/\((l.length:Int)==0)=false:=by
     have hz:=List.length_pos_iff.2 QG
     rcases bD hK.cL with⟨_,h⟩|⟨g,cap,h,_⟩
     . omega
     exact⟨g,cap,h,by simp;omega⟩
    subst i6;rw[zN QG] at Ht;cases qe:cD s q with
    | error e=>
     have hX:zH (dH s p k=.error e):=zh (by rw[HC.o,Ht,qe]);clear Ht;go_wp2_with (first|(go_at_call 98;refine (kO bp s q _ e HK.o.ps qe).mono ?_;rintro e w2 ⟨rfl,Hk⟩));refine⟨rfl,?_⟩;rw[hX.o];exact⟨rfl,aD HK.o.grown (aF Hk _)⟩
    | ok c1=>
     have yu:c1=93:=by
      by_cases h:c1=93
      . exact h
      exact absurd (.inr ⟨c1,qe,h⟩) hit
     subst yu;have QL:R=.ok (l,q):=by rw[Ht,qe];rfl
     have Kt:=zh (iJ qe (by decide) (by decide));have Qj:=zh qe;have QV:=zh QL;clear Ht qe QL hit hK;go_wp2_with (first|(go_at_call 98;refine (iF bp s q _ 93 HK.o.ps Qj.o).mono ?_;rintro e w2 ⟨rfl,Hk⟩;have VU:=zh (HK.o.below Hk))|(go_at_call 99;refine (kS bp s q _ 93 (q+1) VU.o.ps Kt.o).mono ?_;rintro e w6 ⟨rfl,UV,kv⟩;have XZ:=zh (VU.o.next x7 kv UV)))
     first
     | (have xd:¬ c0=94:=Np
        have hX:=HC.o;rw[QV.o] at hX;simp only[zN xd] at hX;have HX:=zh hX;clear hX xd;go_ret;rw[HX.o];exact⟨_,rfl,by unfold ClsV;simp only[aX];exact⟨_,rfl,XZ.o.cL,XZ.o.fresh⟩,XZ.o.ps,XZ.o.grown⟩)
     | (have hX:=HC.o
        rw[QV.o] at hX;simp only[zP Np] at hX;refine (rest_any _ l _ XZ.o.cL (by omega) (λx hx=>by have:=tM.o x hx;omega) (λx hx=>(tM.o x hx).2.2.2.2)).mono ?_;rintro r w7 ⟨v',rfl,AK,St,XP⟩;have Ty:=zh (XZ.o.ps.below XP);have CD:=zh (aD XZ.o.grown (aF XP (some bp)));have EM:zH (∀ g,v'.ownBlock=some g->w.heap.size<=g):=zh λg hg=>zT XZ.o.grown.size (St g hg);have yv:=bD AK;have Q7:=zh AK;clear AK St XP XZ;by_cases Ds:iL l=[]
        . rw[zP Ds] at hX
          have HX:=zh hX;clear hX;rw[Ds] at yv
          rcases yv with⟨rfl,_⟩|⟨gx,capx,rfl,_⟩
          all_goals
           go_wp2_with (go_at_call 80;refine (dT 3 k _).mono ?_;rintro e w' ⟨rfl,rfl⟩);refine⟨rfl,?_⟩;rw[HX.o];exact⟨rfl,CD.o⟩
        rw[zN Ds] at hX
        have HX:=zh hX;have hz7:=List.length_pos_iff.2 Ds;clear hX
        rcases yv with⟨_,h⟩|⟨gx,capx,rfl,_⟩
        . omega
        have hzz:(((iL l).length:Int)==0)=false:=by simp;omega
        go_wp2;go_ret;rw[HX.o];exact⟨_,rfl,by unfold ClsV;simp only[aX];exact⟨_,rfl,Q7.o,EM.o⟩,Ty.o,CD.o⟩)
abbrev Fr (W:Nat):Nat->Prop:=λg=>W<=g
mutual
theorem aX.live :∀ (t:aJ) (v:Value),aX S w t v->aX (λg=>S g/\g<w.heap.size) w t v
 | .cL l,v,hv=>by
  simp only[aX] at hv ⊢;obtain⟨sl,h1,h2,h3⟩:=hv;exact⟨sl,h1,h2,λg hg=>⟨h3 g hg,(h2.lt g hg).2⟩⟩
 | .row l,v,hv=>by
  simp only[aX] at hv ⊢;obtain⟨sl,vs,h1,h2,h3,h4⟩:=hv;exact⟨sl,vs,h1,h2,λg hg=>⟨h3 g hg,(h2.lt g hg).2⟩,bS.live l vs h4⟩
 | .either a b,v,hv=>by
  simp only[aX] at hv ⊢;obtain⟨va,vb,h1,h2,h3⟩:=hv;exact⟨va,vb,h1,aX.live a va h2,aX.live b vb h3⟩
 | .rep t m o,v,hv=>by
  simp only[aX] at hv ⊢;obtain⟨vt,h1,h2⟩:=hv;exact⟨vt,h1,aX.live t vt h2⟩
theorem bS.live :∀ (l:List aJ) (vs:List Value),bS S w l vs->bS (λg=>S g/\g<w.heap.size) w l vs
 | [],vs,hv=>by
  simp only[bS] at hv ⊢;exact hv
 | t::l,vs,hv=>by
  simp only[bS] at hv ⊢;obtain⟨v,r,h1,h2,h3⟩:=hv;exact⟨v,r,h1,aX.live t v h2,bS.live l r h3⟩
end
theorem aX.weak {T:Nat->Prop} (h:aX S w t v) (hS:∀ g,S g->g<w.heap.size->T g):aX T w t v:=
 (h.live t v).ext (λg hg=>hS g hg.1 hg.2) (λ_ _ _=>rfl) t v
theorem bS.weak {T:Nat->Prop} {t:List aJ} {v:List Value} (h:bS S w t v) (hS:∀ g,S g->g<w.heap.size->T g):bS T w t v:=
 (h.live t v).ext (λg hg=>hS g hg.1 hg.2) (λ_ _ _=>rfl) t v
theorem aX.grown (h:aX (Fr W) w t v) (x7:bp<W) (hg:w.grownBy w' (some bp)):aX (Fr W) w' t v:=
 h.ext (λ_ h=>h) (λg hS Hf=>hg.block g Hf (λe=>by cases e;exact absurd hS (by omega))) t v
theorem nF (m:Int) (o:Bool) (h:aX S w t v):aX S w (.rep t m o) (.iface 206 (.agg #[v,.int .i64 m,.bool o])):=by
 simp only[aX];exact⟨_,rfl,h⟩
theorem yR {l:List aJ} (h:w.ownsRow 0 138 1 sl l.length vs) (hs:∀ g,sl.ownBlock=some g->S g) (ht:bS S w l vs):aX S w (.row l) (.iface 202 sl):=by
 simp only[aX];exact⟨_,_,rfl,h,hs,ht⟩
theorem zbP (h:fN w sl l) (hs:∀ g,sl.ownBlock=some g->S g):aX S w (.cL l) (.iface 200 sl):=by
 simp only[aX];exact⟨_,rfl,h,hs⟩
theorem zcv {a b:aJ} {va vb:Value} (ha:aX S w a va) (hb:aX S w b vb):aX S w (.either a b) (.iface 204 (.agg #[va,vb])):=by
 simp only[aX];exact⟨_,_,rfl,ha,hb⟩
theorem zbl {m:Int} {o:Bool} (h:aX S w (.rep t m o) (.iface 206 (.agg #[v,.int .i64 m,.bool o]))):aX S w t v:=by
 simp only[aX] at h;obtain⟨vt,e,h⟩:=h;cases e;exact h
theorem bS.rep (h:aX S w t v):∀ k,bS S w (List.replicate k t) (List.replicate k v)
 | 0=>by simp only[List.replicate_zero,bS]
 | k+1=>by simp only[List.replicate_succ,bS];exact⟨_,_,rfl,h,bS.rep h k⟩
theorem set_last {α:Type} (k:Nat) (v u:α):(List.replicate (k+1) v).set k u=List.replicate k v++[u]:=by
 rw[List.replicate_succ',List.set_append_right _ _ (by simp)];simp
structure RK (F W:Nat) (l:List aJ) (vs:List Value) (sl:Value) (wr:World):Prop where
 row:wr.ownsRow 0 138 1 sl l.length vs
 fresh:∀ g,sl.ownBlock=some g->F<=g
 tR:bS (λg=>W<=g/\sl.ownBlock≠some g) wr l vs
theorem RK.nil (F W:Nat) (wr:World):RK F W [] [] (.slice none 0 0) wr:=
 ⟨nL _ _ _,λg h=>by simp[Value.ownBlock] at h,by simp only[bS]⟩
theorem RK.below {l:List aJ} (h:RK F W l vs sl wr) (hb:Below wr.heap.size wr w'):RK F W l vs sl w':=
 ⟨aZ h.row hb,h.fresh,h.tR.below hb⟩
theorem RK.alloc {l:List aJ} (h:RK F W l vs sl wr) (o:Obj):RK F W l vs sl (wr.alloc o):=
 h.below ((zBr _ wr).alloc (zR _) o)
theorem RK.grown {l:List aJ} (h:RK F W l vs sl wr) (hF:bp<F) (hW:bp<W) (hg:wr.grownBy w' (some bp)):RK F W l vs sl w':=
 ⟨aU h.row (λg vl=>hg.block g (h.row.lt g vl).2 (λe=>by cases e;have:=h.fresh _ vl;omega)),h.fresh,h.tR.ext (λ_ h=>h) (λg hS Hf=>hg.block g Hf (λe=>by cases e;have:=hS.1;omega)) l vs⟩
theorem aX.notIn (h:aX (λg=>W<=g/\sl.ownBlock≠some g) wr t v):aX (Fr W) wr t v:=
 h.weak λg hg _=>hg.1
theorem RK.append {l:List aJ} {v':Value} (h:RK F W l vs sl wr) (hF:F<=wr.heap.size) (ht:aX (λg=>W<=g/\sl.ownBlock≠some g) wr t v)
 (Hb:w'.ownsRow 0 138 1 v' (l.length+1) (vs++[v])) (hg:wr.grownBy w' sl.ownBlock) (hb:v'.ownBlock=sl.ownBlock\/v'.ownBlock=some wr.heap.size):
 RK F W (l++[t]) (vs++[v]) v' w'/\aX (λg=>W<=g/\v'.ownBlock≠some g) w' t v:=by
 have hT:∀ g,(W<=g/\sl.ownBlock≠some g)/\g<wr.heap.size->W<=g/\v'.ownBlock≠some g:=by
  rintro g ⟨⟨h1,h2⟩,h3⟩;refine⟨h1,?_⟩
  rcases hb with e|e
  . rw[e];exact h2
  rw[e];intro e2;cases e2;omega
 have hU:∀ g,(W<=g/\sl.ownBlock≠some g)/\g<wr.heap.size->g<wr.heap.size->w'.heap[g]?=wr.heap[g]?:=λg hs Hf=>hg.block g Hf (λe=>hs.1.2 e.symm);have h2:=(ht.live t v).ext hT hU t v;refine⟨⟨by simpa using Hb,fW hb h.fresh hF,?_⟩,h2⟩;exact ((h.tR.live l vs).ext hT hU l vs).snoc h2
theorem zb3:eY Tryz.prog 202 138 1 16:=
 eY.of (z:=.nilIface) Tryz.underlying202 (by kernel_rfl) rfl (by decide)
