/- Part of a proof. No condition. -/
import Derived.Test.YtghpmhllpaheiaaGreatDoorF39
set_option linter.unusedVariables false
set_option linter.unusedSimpArgs false
set_option maxRecDepth 100000
set_option maxHeartbeats 16000000
namespace Go.Proofs.YtghpmhllpaheiaaGreatDoor
open Go.RowKit Go.Lib
variable {q k p k2 a b m f:Nat} {er:jU} {l:List (Int×Int)} {s:ByteArray} {y2:Pr} {t u:aJ}
def RAltC (f:Nat):Prop:=∀ (B pb:Nat) (s:ByteArray) (x:Pr) (lv:Value) (w:World) (deep:Nat),eW B pb s x lv w->x.e=0->x.ns.length<=20*x.aQ+11->deep<=8->kH s f deep x.aQ≠ .error (0,0)->
 Calls Tryz.prog 125 #[bJ pb,.int .i64 deep] w (yV B pb s x 1 6 0 (kH s f deep x.aQ) lv w)
def RCatC (f:Nat):Prop:=∀ (B pb:Nat) (s:ByteArray) (x:Pr) (lv:Value) (w:World) (deep:Nat),eW B pb s x lv w->x.e=0->x.ns.length<=20*x.aQ+11->deep<=8->iV s f deep x.aQ []≠ .error (0,0)->
 Calls Tryz.prog 149 #[bJ pb,.int .i64 deep] w (yV B pb s x 1 6 0 (iV s f deep x.aQ []) lv w)
def RAtomC (f:Nat):Prop:=∀ (B pb:Nat) (s:ByteArray) (x:Pr) (lv:Value) (w:World) (deep:Nat),eW B pb s x lv w->x.e=0->x.ns.length<=20*x.aQ+12->0<x.ns.length->deep<=8->0<=(bQ s x.aQ).1->(bQ s x.aQ).1≠41->(bQ s x.aQ).1≠124->iX s f deep x.aQ≠ .error (0,0)->
 Calls Tryz.prog 172 #[bJ pb,.int .i64 deep] w (yV B pb s x 0 4 19 (iX s f deep x.aQ) lv w)
section
variable {B pb:Nat} {s:ByteArray} {x y:Pr} {lv:Value} {w w1 w2:World} {e:Ending}
theorem zdh (h:eW B pb s y lv w1) (r:Value) (rl:List (Int×Int)) (hr:w1.ownsRow 0 304 2 r rl.length (eQ rl)) (hg:∀ g,r.ownBlock=some g->B<=g/\g≠pb/\lv.ownBlock≠some g) (hl:y.ns.length<=1000000):
 Calls Tryz.prog 151 #[bJ pb,.agg #[.int .i64 1,r,.int .i64 0,.int .i64 0,.int .i64 0]] w1 (zff B pb s y (kY y.ns 1 r rl 0 0) lv w1):=
 zeT B pb s y lv w1 h 1 0 0 r rl (by omega) (by omega) (by omega) ⟨hr,hg⟩ hl
theorem yV.place {r:Value} {rl c:List (Int×Int)} (hk:PK pb lv lv w w1) (hn:y.ns=x.ns) (hy:y.e=x.e/\y.wh=x.wh/\y.aQ=q) (ha:x.aQ+1<=q) (hc:lF rl c) (hr:∀ r∈rl,0<=r.1/\r.1<=1114111/\0<=r.2/\r.2<=1114111) (h:zff B pb s y (kY y.ns 1 r rl 0 0) lv w1 e w2):
 yV B pb s x 0 4 19 (.ok (.cL c,q)) lv w e w2:=by
 obtain⟨Ky,rfl,h1,h2⟩:=h;refine⟨_,_,Ky,rfl,h1,hk.trans h2,by rw[hn];exact fE _ _,by simp,by show x.aQ<=y.aQ;omega,hy.1,hy.2.1,hy.2.2,?_,?_⟩
 . exact mk_place hc hr
 simp only[zLn,List.length_singleton]
 show y.ns.length+1+20*x.aQ+19<=x.ns.length+20*y.aQ+0;rw[hn];omega
theorem yV.placeBad {r:Value} {rl:List (Int×Int)} (hk:PK pb lv lv w w1) (hn:y.ns=x.ns) (hy:y.e=er.1/\y.wh=er.2) (h0:er.1≠0) (ha:x.aQ<=y.aQ) (h:zff B pb s y (kY y.ns 1 r rl 0 0) lv w1 e w2):
 yV B pb s x 0 4 19 (.error er) lv w e w2:=by
 obtain⟨Ky,rfl,h1,h2⟩:=h;refine⟨_,_,Ky,rfl,h1,hk.trans h2,by rw[hn];exact fE _ _,by simp,ha,hy.1,hy.2,h0,?_⟩;simp only[zLn,List.length_singleton];show y.ns.length+1+20*x.aQ<=x.ns.length+20*y.aQ+4;rw[hn];omega
theorem yV.fail (h:eW B pb s {x with aQ:=q,e:=er.1,wh:=er.2} lv w2) (hk:PK pb lv lv w w2) (Y1:k<x.ns.length) (ha:x.aQ<=q) (h0:er.1≠0):yV B pb s x 0 4 19 (.error er) lv w (.returned (.int .i64 k)) w2:=
 ⟨k,_,lv,rfl,h,hk,List.prefix_refl _,Y1,ha,rfl,rfl,h0,by show x.ns.length+20*x.aQ<=x.ns.length+20*q+4;omega⟩
end
theorem za4 (s:ByteArray) (f deep p:Nat):iX s (f+1) deep p=
 match cD s p with
 | .error e=>.error e
 | .ok c=>
  if c=40 then
   if deep=8 then .error (5,p) else
    match kH s f (deep+1) (p+1) with
    | .error e=>.error e
    | .ok (t,q)=>
     match cD s q with
     | .error e=>.error e
     | .ok d=>if d=41 then .ok (t,q+1) else .error (2,q)
  else if c=91 then
   match dH s (p+1) p with
   | .error e=>.error e
   | .ok (l,q)=>.ok (.cL l,q)
  else if c=46 then .ok (.cL [(0,9),(11,1114111)],p+1)
  else if c=93\/c=123\/c=125\/c=42\/c=43\/c=63 then .error (2,p)
  else
   match bP s p with
   | .error e=>.error e
   | .ok (x,q)=>.ok (.cL [(x,x)],q):=by rw[iX];rfl
theorem rng_new (w:World) (l:List (Int×Int)) (hl:l.length<=100):(w.alloc (.cells (eQ l).toArray 304)).ownsRow 0 304 2 (.slice (some ⟨w.heap.size,0,none⟩) l.length l.length) l.length (eQ l):=by
 have e:(eQ l).length=l.length*2:=by
  unfold eQ
  induction l with
  | nil=>rfl
  | cons a l ih=>rw[List.flatMap_cons,zLn,ih (by simp at hl;omega)];simp;omega
 refine⟨by rw[e],.inr ⟨w.heap.size,l.length,_,rfl,by omega,bR _ _ _ rfl,zR _,by unfold maxLen;omega,?_,?_⟩⟩
 . simp[e]
 simp[<-e]
theorem rng_form {w:World} {v:Value} (h:w.ownsRow 0 304 2 v l.length (eQ l)):∃ ao cap,v=.slice ao l.length cap:=by
 rcases bD h with⟨e,e'⟩|⟨g,cap,e,_⟩
 . exact⟨none,0,by rw[e,e']⟩
 exact⟨_,_,e⟩
theorem oJ (h:cD s p=.error er):er.1≠0:=by
 rw[eT] at h;split at h
 . cases h;exact (by decide:(2:Nat)≠0)
 cases h
theorem edge_ne (h:lJ s p=.error er):er.1≠0:=by
 unfold lJ at h;cases hp:cD s p with
 | error e=>rw[hp] at h;cases h;exact oJ hp
 | ok c=>
  rw[hp] at h;dsimp only at h;split at h
  . cases h;exact (by decide:(2:Nat)≠0)
  rename_i hc
  have Qu:p<=s.size:=by
   rcases zLg s.size p with h1|h1
   . rw[eT,oI (by omega)] at hp
     cases hp;exact absurd (.inl rfl) hc
   exact h1
  rw[oV Qu h];exact (by decide:(2:Nat)≠0)
theorem item_ne (h:iB s p=.error er):er.1≠0:=by
 unfold iB at h;split at h
 . rename_i e he;cases h;exact edge_ne he
 split at h
 . rename_i e he;cases h;exact oJ he
 split at h
 . split at h
   . rename_i e he;cases h;exact edge_ne he
   split at h
   . cases h;exact (by decide:(3:Nat)≠0)
   cases h
 cases h
theorem loop_ne :∀ (f q:Nat) (l:List (Int×Int)),q<=s.size->s.size<f+q->dM s f q l=.error er->er.1≠0
 | 0,q,l,h1,h2,h=>by omega
 | f+1,q,l,h1,h2,h=>by
  rw[xU] at h;split at h
  . rename_i e he;cases h;exact oJ he
  split at h
  . cases h
  split at h
  . rename_i e he;cases h;exact item_ne he
  rename_i x q' hi
  have Qt:=zas hi h1;exact loop_ne f q' _ Qt.2.2.2.2.2.2 (by omega) h
theorem zev (hp:p<=s.size) (h:dH s p k=.error er):er.1≠0:=by
 cases qe:cD s p with
 | error e=>unfold dH at h;rw[qe] at h;cases h;exact oJ qe
 | ok c=>
  rw[sY qe] at h;have hq:(if c=94 then p+1 else p)<=s.size:=by
   split
   . rename_i hc
     subst hc;rw[eT] at qe;split at qe
     . cases qe
     injection qe with e
     have:=(zeV (s:=s) (p:=p));have h2:=lO (s:=s) (p:=p) (by omega);omega
   exact hp
  generalize (if c=94 then p+1 else p)=q at h hq;unfold rD at h;split at h
  . rename_i e he
    cases h;exact loop_ne _ q _ hq (by omega) he
  split at h
  . split at h
    . cases h;exact (by decide:(3:Nat)≠0)
    cases h
  cases h
theorem zeX (s:ByteArray) (y:Pr):(dR s y).aQ=y.aQ:=by
 unfold dR eH;split
 . split<;>rfl
 rfl
theorem fail_peek (s:ByteArray) (y:Pr):eH (dR s y) 2 y.aQ=if y.e=0 then {y with e:=2,wh:=y.aQ} else y:=by
 unfold dR eH;by_cases h:y.e=0
 . rw[zP h]
   split
   . rw[zN (by decide:¬ (2:Nat)=0)]
   rfl
 rw[zN h]
 split<;>simp[h]
section
variable {B pb:Nat} {s:ByteArray} {y:Pr} {lv:Value} {w1:World}
theorem zdi (h:eW B pb s y lv w1) (l:List (Int×Int)) (hl:l.length<=100) (hn:y.ns.length<=1000000):
 Calls Tryz.prog 151 #[bJ pb,.agg #[.int .i64 1,.slice (some ⟨w1.heap.size,0,none⟩) l.length l.length,.int .i64 0,.int .i64 0,.int .i64 0]] (w1.alloc (.cells (eQ l).toArray 304)) (zff B pb s y (kY y.ns 1 (.slice (some ⟨w1.heap.size,0,none⟩) l.length l.length) l 0 0) lv (w1.alloc (.cells (eQ l).toArray 304))):=
 zdh (h.below ((zBr _ w1).alloc (zR _) _)) _ l (rng_new w1 l hl) (λg hg=>by
  cases hg;have:=h.lt;have:=h.low.2.1;exact⟨by show B<=w1.heap.size;omega,by show w1.heap.size≠pb;omega,λe=>by have h1:w1.heap.size<w1.heap.size:=h.rlt _ e;omega⟩) hn
theorem OkR.ns {x:Pr} {r:Except jU Nat} (h:OkR s x y r):y.ns=x.ns:=by
 cases r with
 | ok q=>rw[h.1]
 | error e=>obtain⟨q,_,_,h3⟩:=h;rw[h3]
theorem PK.alloc {v v':Value} {w:World} (h:PK pb v v' w w1) (o:Obj):PK pb v v' w (w1.alloc o):=h.trans (PK.of_below ((zBr _ w1).alloc (zR _) _))
end
theorem ratom_any (f:Nat) (ih:∀ g,g<f->RAltC g):RAtomC f:=by
 intro B pb s x lv w deep h he hl h0 hd x8 Jf X4 Hv;cases f with
 | zero=>rw[iX] at Hv;exact absurd rfl Hv
 | succ f=>
 have hz:=h.sz;have HE:=zh he;have QB:=zh Hv;have IH:=zh (ih f (Nat.lt_succ_self f));have LU:zH (pb<w.heap.size/\(∀ g,lv.ownBlock=some g->g<w.heap.size)/\B<=pb/\0<B):=zh ⟨h.lt,h.rlt,h.low.2.1,h.low.1⟩;have YP:zH (x.ns.length<=20*x.aQ+12/\0<x.ns.length/\x.aQ<=60/\x.wh<=60):=zh ⟨hl,h0,by omega,by omega⟩;have qe:=gQ B pb s x lv w h;have ti:¬ ((bQ s x.aQ).1<0/\0<(bQ s x.aQ).2):=by omega
 rw[qS ti] at qe;have HR:zH (cD s x.aQ=.ok (bQ s x.aQ).1):=zh (by rw[eT,zN ti]);have YZ:=zh (lO (s:=s) (p:=x.aQ));have Qt:=mJ s x.aQ hz.2.1;obtain⟨_,c01,_⟩:=h.cells;clear ih Hv ti h he hl h0;have Iw:=zh x8;generalize bQ s x.aQ=cn at qe YZ Qt HR x8 Jf X4;obtain⟨c,n⟩:=cn;dsimp only at qe YZ Qt HR x8 Jf X4;have XK:zH (iX s (f+1) deep x.aQ=_):=zh (by rw[za4,HR.o]);dsimp only at XK;have Qj:=zh qe;clear qe
 generalize iX s (f+1) deep x.aQ=R at XK QB ⊢;unfold bJ at Qj ⊢;go_enter Tryz.func172,Tryz.ntmps172;go_upto_region 3 with (go_at_call 150;refine Qj.o.mono ?_;rintro e' w1 ⟨rfl,ho⟩;have H1:=zh ho;clear ho)
 clear c01;obtain⟨_,c11,_⟩:=H1.o.1.cells;have f11:=aM w1 pb 1 _ _ H1.o.1.blk;have XY:zH (∀ e:Nat,e<=14->e≠0->Calls Tryz.prog 126 #[.pointer (some ⟨pb,0,none⟩),.int .i64 e,.int .i64 x.aQ] w1 λe' w'=>e'=.returned (.tuple #[])/\eW B pb s {x with e:=e,wh:=x.aQ} lv w'/\PK pb lv lv w w'):=zh (by
  intro e h1 h2;refine (gP B pb s x lv w1 H1.o.1 e x.aQ h1 YP.o.2.2.1).mono ?_;rintro e' w' ⟨rfl,g1,g2⟩;rw[show eH x e x.aQ={x with e:=e,wh:=x.aQ} by unfold eH;rw[zP HE.o]] at g1;exact⟨rfl,g1,H1.o.2.trans g2⟩)
 by_cases tZ:c=40
 . subst tZ
   rw[zP rfl] at XK;obtain⟨yj,Qu⟩:=YZ.o (by omega);subst yj;by_cases h8:deep=8
   . subst h8
     rw[zP rfl] at XK;have HF:=zh (XY.o 5 (by omega) (by omega));go_wp2_with (first|(go_at_call 126;refine HF.o.mono ?_;rintro e' w2 ⟨rfl,ho⟩;have H2:=zh ho;clear ho));go_ret;rw[XK.o];exact yV.fail (q:=x.aQ) (er:=(5,x.aQ)) H2.o.1 H2.o.2 YP.o.2.1 (zR _) (by decide:(5:Nat)≠0)
   rw[zN h8] at XK
   have yz:IntKind.i64.wrap ((x.aQ:Int)+1)=(x.aQ:Int)+1:=zIn _ (by omega);have xj:zH (eW B pb s {x with aQ:=x.aQ+1} lv (w1.setCell ⟨pb,1,none⟩ (.int .i64 ((x.aQ:Int)+1)))/\PK pb lv lv w (w1.setCell ⟨pb,1,none⟩ (.int .i64 ((x.aQ:Int)+1)))):=zh ⟨H1.o.1.set 1 _ _ (by simp) rfl ⟨by show x.aQ+1<=s.size;omega,hz.2.2.1,hz.2.2.2⟩,H1.o.2.trans (PK.set 1 _)⟩;have z8:((deep:Int)==8)=false:=by simp;omega
   clear x8 Jf X4 HR YZ XY Iw;go_upto_region 9 with (fail)
   generalize w1.setCell ⟨pb,1,none⟩ (.int .i64 ((x.aQ:Int)+1))=w2 at xj ⊢;have HA:zH (Calls Tryz.prog 125 #[bJ pb,.int .i64 ((deep:Int)+1)] w2 (yV B pb s {x with aQ:=x.aQ+1} 1 6 0 (kH s f (deep+1) (x.aQ+1)) lv w2)):=
    zh (IH.o B pb s {x with aQ:=x.aQ+1} lv w2 (deep+1) xj.o.1 HE.o (by have:=YP.o;show x.ns.length<=20*(x.aQ+1)+11;omega) (by omega) (λh=>QB.o (by rw[XK.o];have h:kH s f (deep+1) (x.aQ+1)=.error (0,0):=h;rw[h])))
   have bh:=zW deep (by omega);clear QB;generalize kH s f (deep+1) (x.aQ+1)=A at HA XK;unfold bJ at HA;clear hz h8 Qu Qt hd;go_upto_region 10 with (go_at_call 125;refine HA.o.mono ?_;rintro e' w3 ⟨k,y,JD,rfl,g1,g2,g3,g4,g5,g6⟩;have H3:=zh (zAi g1 (zAi g2 (zAi g3 (zAi g4 g5))));have HT:=zh g6;clear g1 g2 g3 g4 g5 g6)
   have ct:=gQ B pb s y JD w3 H3.o.1;have IL:=zh (eT s y.aQ);have p8:=zh (lO (s:=s) (p:=y.aQ));have Xt:=mJ s y.aQ H3.o.1.sz.2.1;have IG:zH ((dR s y).aQ=y.aQ):=zh (zeX s y);have IJ:zH (eH (dR s y) 2 y.aQ=if y.e=0 then {y with e:=2,wh:=y.aQ} else y):=zh (fail_peek s y);have Ub:zH (¬ ((bQ s y.aQ).1<0/\0<(bQ s y.aQ).2)->dR s y=y):=zh qS;generalize dR s y=y1 at ct IG IJ Ub;generalize bQ s y.aQ=cn2 at ct IL p8 Xt Ub
   obtain⟨d,kk⟩:=cn2;dsimp only at ct IL p8 Xt Ub;have V3:=zh ct;clear ct;unfold bJ at V3;go_upto_region 11 with (go_at_call 150;refine V3.o.mono ?_;rintro e' w4 ⟨rfl,ho⟩;have H4:=zh ho;clear ho);obtain⟨_,c41,_⟩:=H4.o.1.cells;rw[IG.o] at c41;have f41:=aM w4 pb 1 _ _ H4.o.1.blk;have rn:y.aQ<=60:=by have:=H3.o.1.sz;omega
   by_cases AL:d=41
   . subst AL
     obtain⟨Kl,QZ⟩:=p8.o (by omega);subst Kl;have hwq2:IntKind.i64.wrap ((y.aQ:Int)+1)=(y.aQ:Int)+1:=zIn _ (by omega);have WO:=zh (Ub.o (by omega));clear Xt IJ Ub;go_wp2_with (fail);go_ret;have Ot:=H4.o.1;rw[WO.o] at Ot;have Cx:=Ot.sz;have h5:=Ot.set 1 (.int .i64 ((y.aQ:Int)+1)) {y with aQ:=y.aQ+1} (by simp) rfl ⟨by show y.aQ+1<=s.size;omega,Cx.2.2.1,Cx.2.2.2⟩;have k5:=((xj.o.2.trans H3.o.2.1).trans H4.o.2).trans (PK.set (pb:=pb) 1 (.int .i64 ((y.aQ:Int)+1)))
     have hx:=H3.o.2.2;have ht:=HT.o;refine⟨k,_,JD,rfl,h5,k5,hx.1,hx.2.1,by show x.aQ<=y.aQ+1;omega,?_⟩;rw[XK.o];cases A with
     | error er=>exact⟨ht.1,ht.2.1,ht.2.2.1,by have:=ht.2.2.2;show y.ns.length+20*x.aQ<=x.ns.length+20*(y.aQ+1)+4;have h7:y.ns.length+20*(x.aQ+1)<=x.ns.length+20*y.aQ+6:=this;omega⟩
     | ok r=>
      obtain⟨T,q⟩:=r;obtain⟨t1,t2,t3,t4,t5⟩:=ht;have hq:=IL.o;rw[zN (by omega),t3] at hq;dsimp only;rw[hq];dsimp only;rw[zP (rfl:(41:Int)=41)];refine⟨t1,t2,by show y.aQ+1=q+1;omega,t4,?_⟩;show y.ns.length+20*x.aQ+19<=x.ns.length+20*(y.aQ+1)+0;have h7:y.ns.length+20*(x.aQ+1)+0<=x.ns.length+20*y.aQ+1:=t5;omega
   have zd:(d==41)=false:=by simp[AL]
   have zd2:(d != 41)=true:=by simp[AL]
   have nf:=gP B pb s y1 JD w4 H4.o.1 2 y.aQ (by omega) rn;rw[IJ.o] at nf;have HF:=zh nf;clear nf IJ Ub Xt;unfold bJ at HF;have LD:=zh AL;clear AL;obtain⟨y2,ri⟩:∃ y2,y2=if y.e=0 then {y with e:=2,wh:=y.aQ} else y:=⟨_,rfl⟩
   rw[<-ri] at HF;have WP:=zh ri;clear ri;go_wp2_with (first|(go_at_call 126;refine HF.o.mono ?_;rintro e' w2 ⟨rfl,ho⟩;have H2:=zh ho;clear ho));go_ret;have k5:=((xj.o.2.trans H3.o.2.1).trans H4.o.2).trans H2.o.2;have h5:=H2.o.1;rw[WP.o] at h5;have hx:=H3.o.2.2;have ht:=HT.o;rw[XK.o];cases A with
   | error er=>
    have he:¬ y.e=0:=by rw[ht.1];exact ht.2.2.1
    rw[zN he] at h5;exact⟨k,_,JD,rfl,h5,k5,hx.1,hx.2.1,by omega,ht.1,ht.2.1,ht.2.2.1,by have h7:y.ns.length+20*(x.aQ+1)<=x.ns.length+20*y.aQ+6:=ht.2.2.2;omega⟩
   | ok r=>
    obtain⟨T,q⟩:=r;obtain⟨t1,t2,t3,t4,t5⟩:=ht;have he:y.e=0:=by rw[t1];exact HE.o
    rw[zP he] at h5;have hq:=IL.o;have hR:(match (Except.ok (T,q):Except jU (aJ×Nat)) with
     | .error e=>.error e
     | .ok (t,q)=>
      match cD s q with
      | .error e=>.error e
      | .ok d=>if d=41 then .ok (t,q+1) else .error (2,q):Except jU (aJ×Nat))=.error (2,y.aQ):=by
     dsimp only;rw[<-t3,hq];by_cases hb:d<0/\0<kk
     . rw[zP hb]
     rw[zN hb]
     dsimp only;rw[zN LD.o]
    rw[hR];exact⟨k,{y with e:=2,wh:=y.aQ},JD,rfl,h5,k5,hx.1,hx.2.1,by show x.aQ<=y.aQ;omega,rfl,rfl,(by decide:(2:Nat)≠0),by have h7:y.ns.length+20*(x.aQ+1)+0<=x.ns.length+20*y.aQ+1:=t5;show y.ns.length+20*x.aQ<=x.ns.length+20*y.aQ+4;omega⟩
 rw[zN tZ] at XK;have z40:(c==40)=false:=by simp[tZ]
 by_cases TF:c=91
 . subst TF
   rw[zP rfl] at XK;obtain⟨yj,Qu⟩:=YZ.o (by omega);subst yj;have yz:IntKind.i64.wrap ((x.aQ:Int)+1)=(x.aQ:Int)+1:=zIn _ (by omega);have xj:zH (eW B pb s {x with aQ:=x.aQ+1} lv (w1.setCell ⟨pb,1,none⟩ (.int .i64 ((x.aQ:Int)+1)))/\PK pb lv lv w (w1.setCell ⟨pb,1,none⟩ (.int .i64 ((x.aQ:Int)+1)))):=zh ⟨H1.o.1.set 1 _ _ (by simp) rfl ⟨by show x.aQ+1<=s.size;omega,hz.2.2.1,hz.2.2.2⟩,H1.o.2.trans (PK.set 1 _)⟩;clear x8 Jf X4 HR YZ XY Iw tZ;go_upto_region 18 with (fail)
   generalize w1.setCell ⟨pb,1,none⟩ (.int .i64 ((x.aQ:Int)+1))=w2 at xj ⊢;have HS:=zh (zfP B pb s _ lv w2 xj.o.1 HE.o x.aQ YP.o.2.2.1);unfold bJ at HS;go_upto_region 19 with (go_at_call 174;refine HS.o.mono ?_;rintro e' w3 ⟨v,l',y,rfl,ho,X7,vl,Hv,yp⟩;obtain⟨vo,vc,rfl⟩:=rng_form X7;have H3:=zh ho;have xi:=zh (zAi X7 vl);have E4:=zh Hv;have YJ:=zh yp;clear ho Hv yp X7 vl)
   have ir:w.heap.size<=w2.heap.size:=xj.o.2.size;have HN:=zh (zdh H3.o.1 (.slice vo l'.length vc) l' xi.o.1 (λg hg=>by
    have h1:=xi.o.2 g hg;have h2:=LU.o;exact⟨by omega,by omega,λe=>by have:=h2.2.1 g e;omega⟩) (by rw[E4.o.ns];have:=YP.o;show x.ns.length<=_;omega))
   unfold bJ at HN;go_wp2_with (first|(go_at_call 151;refine HN.o.mono ?_;rintro e' w4 ho;obtain⟨JD,rfl,_⟩:=id ho;have H4:=zh ho;clear ho));go_ret;rw[XK.o];have hk:=xj.o.2.trans H3.o.2;have Xi:=E4.o;cases YE:dH s (x.aQ+1) x.aQ with
   | error er=>
    rw[YE] at Xi;obtain⟨q,g1,g2,rfl⟩:=Xi;dsimp only;have oz:er.1≠0:=zev (by omega) YE;exact yV.placeBad (er:=er) (y:={x with aQ:=q,e:=er.1,wh:=er.2}) hk rfl ⟨rfl,rfl⟩ oz (by show x.aQ<=q;have:x.aQ+1<=q:=g1;omega) H4.o
   | ok r=>
    obtain⟨lc,q⟩:=r;obtain⟨lx,Pj⟩:=YJ.o _ _ YE;rw[YE] at Xi;obtain⟨rfl,g1,g2⟩:=Xi;dsimp only;exact yV.place (y:={x with aQ:=q}) (q:=q) hk rfl ⟨rfl,rfl,rfl⟩ g1 lx Pj H4.o
 rw[zN TF] at XK;have z91:(c==91)=false:=by simp[TF]
 by_cases Al:c=46
 . subst Al
   rw[zP rfl] at XK;obtain⟨yj,Qu⟩:=YZ.o (by omega);subst yj;have yz:IntKind.i64.wrap ((x.aQ:Int)+1)=(x.aQ:Int)+1:=zIn _ (by omega);have xj:zH (eW B pb s {x with aQ:=x.aQ+1} lv (w1.setCell ⟨pb,1,none⟩ (.int .i64 ((x.aQ:Int)+1)))/\PK pb lv lv w (w1.setCell ⟨pb,1,none⟩ (.int .i64 ((x.aQ:Int)+1)))):=zh ⟨H1.o.1.set 1 _ _ (by simp) rfl ⟨by show x.aQ+1<=s.size;omega,hz.2.2.1,hz.2.2.2⟩,H1.o.2.trans (PK.set 1 _)⟩;clear x8 Jf X4 HR YZ XY Iw tZ TF;go_upto_region 22 with (fail)
   generalize w1.setCell ⟨pb,1,none⟩ (.int .i64 ((x.aQ:Int)+1))=w2 at xj ⊢;have HN:=zh (zdi xj.o.1 [(0,9),(11,1114111)] (by simp) (by have:=YP.o;show x.ns.length<=_;omega));unfold bJ at HN;go_wp2_with (first|(go_at_call 151;refine HN.o.mono ?_;rintro e' w3 ho;obtain⟨JD,rfl,_⟩:=id ho;have H3:=zh ho;clear ho));go_ret;rw[XK.o]
   exact yV.place (y:={x with aQ:=x.aQ+1}) (q:=x.aQ+1) (xj.o.2.alloc _) rfl ⟨rfl,rfl,rfl⟩ (zR _) (lF.refl _) (λr hr=>by simp at hr;rcases hr with rfl|rfl<;>decide) H3.o
 rw[zN Al] at XK;have z46:(c==46)=false:=by simp[Al]
 have z41:(c==41)=false:=by simp[Jf]
 have z124:(c==124)=false:=by simp[X4]
 by_cases hs:c=93\/c=123\/c=125\/c=42\/c=43\/c=63
 . rw[zP hs] at XK
   have HF:=zh (XY.o 2 (by omega) (by omega));clear x8 Jf X4 HR YZ
   rcases hs with rfl|rfl|rfl|rfl|rfl|rfl
   all_goals
    go_wp2_with (first|(go_at_call 126;refine HF.o.mono ?_;rintro e' w2 ⟨rfl,ho⟩;have H2:=zh ho;clear ho));go_ret;rw[XK.o];exact yV.fail (q:=x.aQ) (er:=(2,x.aQ)) H2.o.1 H2.o.2 YP.o.2.1 (zR _) (by decide:(2:Nat)≠0)
 rw[zN hs] at XK;have z93:(c==93)=false:=by simp;omega
 have z123:(c==123)=false:=by simp;omega
 have z125:(c==125)=false:=by simp;omega
 have z42:(c==42)=false:=by simp;omega
 have z43:(c==43)=false:=by simp;omega
 have z63:(c==63)=false:=by simp;omega
 have HS:=zh (uS B pb s x lv w1 H1.o.1 HE.o);clear x8 Jf X4 HR YZ XY hs tZ TF Al;unfold bJ at HS;go_upto_region 34 with (go_at_call 175;refine HS.o.mono ?_;rintro e' w2 ⟨v,y,rfl,ho,Tv,Ku,Hv,N8⟩;have H2:=zh ho;have E4:=zh Hv;have Md:=zh N8;clear ho Hv N8)
 have HN:=zh (zdi H2.o.1 [(v,v)] (by simp) (by rw[E4.o.ns];have:=YP.o;omega));unfold bJ at HN;go_wp2_with (first|(go_at_call 151;refine HN.o.mono ?_;rintro e' w3 ho;obtain⟨JD,rfl,_⟩:=id ho;have H3:=zh ho;clear ho));go_ret;rw[XK.o];have hk:=(H1.o.2.trans H2.o.2).alloc (.cells (eQ [(v,v)]).toArray 304);have Xi:=E4.o;cases YE:bP s x.aQ with
 | error er=>
  rw[YE] at Xi;obtain⟨q,g1,g2,rfl⟩:=Xi;dsimp only;have oz:=oV hz.2.1 YE;subst oz;exact yV.placeBad (er:=(2,x.aQ)) (y:={x with aQ:=q,e:=2,wh:=x.aQ}) hk rfl ⟨rfl,rfl⟩ (by decide:(2:Nat)≠0) g1 H3.o
 | ok r=>
  obtain⟨v',q⟩:=r;have hv:=Md.o _ _ YE;subst hv;rw[YE] at Xi;obtain⟨rfl,g1,g2⟩:=Xi;dsimp only;obtain⟨Hf,Xd⟩:=za8 hz.2.1 Iw.o YE;unfold cH at Xd;simp only[Bool.and_eq_true,Bool.or_eq_true,decide_eq_true_eq] at Xd;exact yV.place (y:={x with aQ:=q}) (q:=q) hk rfl ⟨rfl,rfl,rfl⟩ Hf (lF.refl _) (λr hr=>by rw[zMs] at hr;subst hr;exact⟨by show 0<=v;omega,by show v<=1114111;omega,by show 0<=v;omega,by show v<=1114111;omega⟩) H3.o
abbrev zbm (a b:Int×Int):Prop:=a.2<b.1
theorem pf_same {r:Int×Int}:∀ {l:List (Int×Int)},(∀ y∈l,y.2<r.1\/y.1>r.2)->cutP l r=l
 | [],_=>rfl
 | x::l,h=>by
  have ih:=pf_same (l:=l) (λy hy=>h y (by simp[hy]));unfold cutP at ih ⊢;rw[List.flatMap_cons,zP (h x (by simp)),ih];rfl
theorem pf_cut (r:Int×Int) (hr:r.1<=r.2):∀ (l:List (Int×Int)),l.Pairwise zbm->(∀ x∈l,x.1<=x.2)->
 (cutP l r).Pairwise zbm/\(∀ y∈cutP l r,y.1<=y.2/\∃ x∈l,x.1<=y.1/\y.2<=x.2)/\(cutP l r).length<=l.length+1
 | [],_,_=>⟨List.Pairwise.nil,λy hy=>by simp[cutP] at hy,by simp[cutP]⟩
 | x::l,hp,hx=>by
  rw[List.pairwise_cons] at hp;have Kw:=hx x (by simp);obtain⟨i1,i2,i3⟩:=pf_cut r hr l hp.2 (λy hy=>hx y (by simp[hy]));obtain⟨pc,G1⟩:=zE ((if x.2<r.1\/x.1>r.2 then[x] else (if x.1<r.1 then[(x.1,r.1-1)] else[])++(if x.2>r.2 then[(r.2+1,x.2)] else[])));have e:cutP (x::l) r=pc++cutP l r:=by
   unfold cutP;rw[List.flatMap_cons,G1]
  have Xh:∀ y∈pc,y.1<=y.2/\x.1<=y.1/\y.2<=x.2:=λy hy=>by
   rw[G1] at hy;split at hy
   . rw[zMs] at hy;subst hy;omega
   rcases List.mem_append.1 hy with hy|hy
   . split at hy
     . rw[zMs] at hy;subst hy;dsimp only;omega
     cases hy
   split at hy
   . rw[zMs] at hy;subst hy;dsimp only;omega
   cases hy
  have JY:pc.Pairwise zbm:=by
   rw[G1];split
   . simp
   split<;>split<;>simp[zbm]<;>omega
  have Hg:pc.length<=1\/(pc.length=2/\cutP l r=l):=by
   by_cases h2:x.1<r.1/\x.2>r.2
   . refine .inr ⟨?_,pf_same λy hy=>.inr ?_⟩
     . rw[G1,zN (by omega),zP h2.1,zP h2.2];rfl
     have h3:x.2<y.1:=hp.1 y hy
     omega
   refine .inl ?_
   rw[G1];split
   . simp
   split<;>split<;>simp<;>omega
  rw[e];refine⟨?_,λy hy=> ?_,?_⟩
  . rw[List.pairwise_append]
    refine⟨JY,i1,λa ha b hb=> ?_⟩;have h1:=Xh a ha;obtain⟨_,z,hz,h2,h3⟩:=i2 b hb;have h4:x.2<z.1:=hp.1 z hz;show a.2<b.1;omega
  . rcases List.mem_append.1 hy with hy|hy
    . exact⟨(Xh y hy).1,x,by simp,(Xh y hy).2⟩
    obtain⟨h1,z,hz,h2⟩:=i2 y hy
    exact⟨h1,z,by simp[hz],h2⟩
  rw[zLn,List.length_cons]
  rcases Hg with h|⟨h,h2⟩
  . omega
  rw[h,h2];omega
theorem pf_fold:∀ (l a:List (Int×Int)),a.Pairwise zbm->(∀ x∈a,x.1<=x.2)->gA a->(∀ r∈l,r.1<=r.2)->gA (l.foldl cutP a)/\(l.foldl cutP a).length<=a.length+l.length
 | [],a,_,_,h,_=>⟨h,zR _⟩
 | r::l,a,h1,h2,h3,h4=>by
  obtain⟨c1,c2,c3⟩:=pf_cut r (h4 r (by simp)) a h1 h2;obtain⟨d1,d2⟩:=pf_fold l (cutP a r) c1 (λy hy=>(c2 y hy).1) (λy hy=>by
   obtain⟨e1,x,hx,e2,e3⟩:=c2 y hy;have:=h3 x hx;omega) (λq hq=>h4 q (by simp[hq]))
  refine⟨d1,?_⟩;simp only[List.length_cons];show (l.foldl cutP (cutP a r)).length<=_;omega
theorem pf_rest (h:∀ r∈l,r.1<=r.2):gA (iL l)/\(iL l).length<=2+l.length:=
 pf_fold l _ (by simp[zbm]) (λx hx=>by simp at hx;rcases hx with rfl|rfl<;>decide) (λx hx=>by simp at hx;rcases hx with rfl|rfl<;>decide) h
theorem pf_loop :∀ (f p:Nat) (l l2:List (Int×Int)) (q:Nat),dM s f p l=.ok (l2,q)->p<=s.size->(∀ r∈l,0<=r.1/\r.1<=r.2/\r.2<=1114111)->(∀ r∈l2,0<=r.1/\r.1<=r.2/\r.2<=1114111)/\p<=q/\q<s.size/\l2.length+p<=l.length+q
 | 0,p,l,l2,q,h,_,_=>by rw[dM] at h;cases h
 | f+1,p,l,l2,q,h,hp,hl=>by
  have item:∀ x q1,iB s p=.ok (x,q1)->dM s f q1 (l++[x])=.ok (l2,q)->(∀ r∈l2,0<=r.1/\r.1<=r.2/\r.2<=1114111)/\p<=q/\q<s.size/\l2.length+p<=l.length+q:=λx q1 hi hc=>by
   have h1:=zas hi hp;obtain⟨a1,a2,a3,a4⟩:=pf_loop f q1 _ l2 q hc h1.2.2.2.2.2.2 (λr hr=>by
    rcases List.mem_append.1 hr with hr|hr
    . exact hl r hr
    rw[zMs] at hr;subst hr;omega)
   simp only[zLn,List.length_singleton] at a4;exact⟨a1,by omega,a3,by omega⟩
  rw[xU] at h;split at h
  . cases h
  rename_i c hc
  split at h
  . rename_i h93
    cases h;refine⟨hl,zR _,?_,zR _⟩
    rcases zLg p s.size with h1|h1
    . exact h1
    rw[eT,oI (by omega)] at hc
    simp at hc;omega
  split at h
  . cases h
  rename_i x q1 hi
  exact item x q1 hi h
theorem pf_class (h:dH s p k=.ok (l,q)) (hp:p<=s.size) (hs:s.size<=60):gA l/\l.length<=62/\p<q/\q<=s.size:=by
 unfold dH at h;split at h
 . cases h
 rename_i c hc
 split at h
 . cases h
 rename_i l1 q1 hl
 have qz:(if c=94 then p+1 else p)<=s.size:=by
  split
  . rename_i Np
    subst Np
    rcases zLg p s.size with h1|h1
    . omega
    rw[eT,oI (by omega)] at hc
    simp at hc
  exact hp
 obtain⟨a1,a2,a3,a4⟩:=pf_loop _ _ _ _ _ hl qz (λr hr=>by cases hr);have xq:p<=q1:=by
  split at a2<;>omega
 simp only[List.length_nil] at a4;have UJ:l1.length<=60:=by omega
 split at h
 . split at h
   . cases h
   cases h
   have:=pf_rest (l:=l1) (λr hr=>(a1 r hr).2.1);exact⟨this.1,by omega,by omega,by omega⟩
 cases h
 exact⟨λr hr=>by have:=a1 r hr;omega,by omega,by omega,by omega⟩
structure oQ (B pb:Nat) (s:ByteArray) (x:Pr) (lv:Value) (w:World) (k:Nat) (y:Pr) (QU:Value) (wr:World):Prop where
 pr:eW B pb s y QU wr
 pk:PK pb lv QU w wr
 pre:x.ns<+:y.ns
 lt:k<y.ns.length
 le:x.aQ<=y.aQ
def ErrS (R:Except jU (aJ×Nat)) (x y:Pr):Prop:=y.e≠0/\R=.error (y.e,y.wh)/\y.ns.length+20*x.aQ<=x.ns.length+20*y.aQ+6
def RowS (s:ByteArray) (R:Except jU (aJ×Nat)) (x y:Pr) (k deep g:Nat):Prop:=
 y.e=x.e/\y.wh=x.wh/\y.ns.length+20*x.aQ<=x.ns.length+20*y.aQ+1/\∃ l,kD y.ns k l/\R=iV s g deep y.aQ l
def CatS (s:ByteArray) (R:Except jU (aJ×Nat)) (x y:Pr) (k:Nat) (c:Int) (deep g:Nat):Prop:=
 RowS s R x y k deep g/\c=(bQ s y.aQ).1/\cD s y.aQ=.ok c
theorem zeY (s:ByteArray) (y:Pr):(dR s y).ns=y.ns:=by
 unfold dR eH;split
 . split<;>rfl
 rfl
section
variable {B pb:Nat} {s:ByteArray} {x y:Pr} {lv QU:Value} {w wr w':World} {k deep g:Nat} {R:Except jU (aJ×Nat)} {c:Int}
theorem oQ.peek (h:oQ B pb s x lv w k y QU wr) (h2:PrO B pb s (dR s y) QU wr w'):oQ B pb s x lv w k (dR s y) QU w':=
 ⟨h2.1,h.pk.trans h2.2,by rw[zeY];exact h.pre,by rw[zeY];exact h.lt,by rw[zeX];exact h.le⟩
theorem zes (he:x.e=0) (hR:R≠ .error (0,0)) (h:ErrS R x y\/RowS s R x y k deep g):ErrS R x (dR s y)\/CatS s R x (dR s y) k (bQ s y.aQ).1 deep g:=by
 rcases h with h|h
 . rw[zaZ h.1];exact .inl h
 obtain⟨h1,h2,h3,l,h4,h5⟩:=h
 by_cases hb:(bQ s y.aQ).1<0/\0<(bQ s y.aQ).2
 . rw[vO (h1.trans he) hb]
   refine .inl ⟨(by decide:(2:Nat)≠0),?_,by show y.ns.length+20*x.aQ<=x.ns.length+20*y.aQ+6;omega⟩;cases g with
   | zero=>rw[iV] at h5;exact absurd h5 hR
   | succ g=>rw[h5,qT,eT,zP hb]
 rw[qS hb]
 exact .inr ⟨⟨h1,h2,h3,l,h4,h5⟩,rfl,by rw[eT,zN hb]⟩
theorem zbU (he:x.e=0) (hR:R≠ .error (0,0)) (hl:oQ B pb s x lv w k y QU wr) (h:ErrS R x y\/(CatS s R x y k c deep g/\(c= -1\/c=124\/c=41))):yV B pb s x 1 6 0 R lv w (.returned (.int .i64 k)) wr:=by
 rcases h with⟨h1,h2,h3⟩|⟨⟨⟨h1,h2,h3,l,h4,h5⟩,h6,h7⟩,h8⟩
 . rw[h2]
   exact⟨k,y,QU,rfl,hl.pr,hl.pk,hl.pre,hl.lt,hl.le,rfl,rfl,h1,h3⟩
 cases g with
 | zero=>rw[iV] at h5;exact absurd h5 hR
 | succ g=>
  have e:R=.ok (.row l,y.aQ):=by
   rw[h5,qT,h7];dsimp only;rw[zP h8]
  rw[e];exact⟨k,y,QU,rfl,hl.pr,hl.pk,hl.pre,hl.lt,hl.le,h1,h2,rfl,.row _ _ h4,by omega⟩
theorem cat_go (hR:R≠ .error (0,0)) (h:CatS s R x y k c deep g) (hc:¬ (c= -1\/c=124\/c=41)):∃ g2 l,g=g2+1/\kD y.ns k l/\iX s g2 deep y.aQ≠ .error (0,0)/\R=match repP s (iX s g2 deep y.aQ) with| .error e=>.error e| .ok (u,q)=>iV s g2 deep q (l++[u]):=by
 obtain⟨⟨h1,h2,h3,l,h4,h5⟩,h6,h7⟩:=h;cases g with
 | zero=>rw[iV] at h5;exact absurd h5 hR
 | succ g=>
  rw[qT,h7] at h5;dsimp only at h5;rw[zN hc] at h5;refine⟨g,l,rfl,h4,λha=>hR (by rw[h5,ha]),?_⟩;rw[h5];unfold repP;cases iX s g deep y.aQ with
  | error e=>rfl
  | ok r=>rfl
theorem cat_next {l:List aJ} {RP:Except jU (aJ×Nat)} (Hb:kD y.ns k l) (hp:y.ns<+:y2.ns) (hx:y.e=x.e/\y.wh=x.wh/\y.ns.length+20*x.aQ<=x.ns.length+20*y.aQ+1)
 (hR:R=match RP with| .error e=>.error e| .ok (u,q)=>iV s g deep q (l++[u]))
 (h:match (generalizing:=false) RP with
  | .ok (T,q)=>y2.e=y.e/\y2.wh=y.wh/\y2.aQ=q/\cO y2.ns k2 T/\y2.ns.length+20*y.aQ+19<=y.ns.length+20*y2.aQ+0
  | .error er=>y2.e=er.1/\y2.wh=er.2/\er.1≠0/\y2.ns.length+20*y.aQ<=y.ns.length+20*y2.aQ+4):
 ErrS R x {y2 with ns:=y2.ns++[kY y2.ns 2 (.slice none 0 0) [] k k2]}\/RowS s R x {y2 with ns:=y2.ns++[kY y2.ns 2 (.slice none 0 0) [] k k2]} y2.ns.length deep g:=by
 cases RP with
 | error er=>
  obtain⟨h1,h2,h3,h4⟩:=h;refine .inl ⟨by show y2.e≠0;rw[h1];exact h3,by rw[hR];show _=Except.error (y2.e,y2.wh);rw[h1,h2],?_⟩;show (y2.ns++[_]).length+20*x.aQ<=x.ns.length+20*y2.aQ+6;simp only[zLn,List.length_singleton];omega
 | ok r=>
  obtain⟨T,q⟩:=r;obtain⟨h1,h2,h3,h4,h5⟩:=h;refine .inr ⟨h1.trans hx.1,h2.trans hx.2.1,?_,l++[T],zaX (Hb.mono hp) h4,?_⟩
  . show (y2.ns++[_]).length+20*x.aQ<=x.ns.length+20*y2.aQ+1
    simp only[zLn,List.length_singleton];omega
  rw[hR]
  show _=iV s g deep y2.aQ _;rw[h3]
end
theorem rcat_any (f:Nat) (ih:∀ g,g<f->RAtomC g):RCatC f:=by
 intro B pb s x lv w deep h he hl hd Hv;have HE:=zh he;have IH:=zh ih;have YP:zH (x.ns.length<=20*x.aQ+11/\deep<=8/\s.size<=60):=zh ⟨hl,hd,h.sz.1⟩;obtain⟨R,hR⟩:=zE (iV s f deep x.aQ []);rw[<-hR] at Hv ⊢;have HR:=zh hR;have QB:=zh Hv;have HN:=zh (kZ h 0 0 0 (by omega) (by omega) (by omega) (by have:=h.sz;omega));clear ih he hl hd Hv hR h;unfold bJ at HN ⊢;go_enter Tryz.func149,Tryz.ntmps149
 go_upto_region 2 with (go_at_call 151;refine HN.o.mono ?_;rintro e' w1 ⟨Vh,rfl,ho⟩;have H1:=zh ho;clear ho)
 obtain⟨y,hy⟩:∃ y:Pr,y={x with ns:=x.ns++[kY x.ns 0 (.slice none 0 0) [] 0 0]}:=⟨_,rfl⟩;have HL:zH (oQ B pb s x lv w x.ns.length y Vh w1):=zh (by rw[hy];exact⟨H1.o.1,H1.o.2,fE _ _,by simp,zR _⟩);have HS:zH (ErrS R x y\/RowS s R x y x.ns.length deep f):=zh (.inr (by rw[hy];exact⟨rfl,rfl,by simp;omega,[],mk_nil _,HR.o⟩));clear H1 hy;have Qj:=zh (gQ B pb s y Vh w1 HL.o.pr);have Qs:=zh (zes HE.o QB.o HS.o)
 have xw:zH (∀ w',PrO B pb s (dR s y) Vh w1 w'->oQ B pb s x lv w x.ns.length (dR s y) Vh w'):=zh (λw' h=>HL.o.peek h);clear HS;generalize bQ s y.aQ=cn at Qj Qs;obtain⟨c,n⟩:=cn;generalize dR s y=y1 at Qj Qs xw;dsimp only at Qj Qs;unfold bJ at Qj;go_wp2_with (first|(go_at_call 150;refine Qj.o.mono ?_;rintro e' w2 ⟨rfl,ho⟩;have H2:=zh (xw.o _ ho);clear ho))
 go_loopg [5,6] f (λgh s5 s6 wr=>∃ (G k:Nat) (y:Pr) (QU:Value) (c:Int),G=gh/\G<=f/\s5=.int .i64 k/\s6=.int .i64 c/\oQ B pb s x lv w k y QU wr/\(ErrS R x y\/CatS s R x y k c deep G))
 case atStart=>exact⟨f,_,y1,Vh,c,rfl,zR _,rfl,rfl,H2.o,Qs.o⟩
 case round=>
  clear H2 Qs xw HL;obtain⟨G,k,y,QU,c,hG,Fq,rfl,rfl,jh,Hl⟩:=hrel;have HG:=zh (zAi hG Fq);clear hG Fq;have xw:=zh jh;obtain⟨_,_,c2,_⟩:=jh.pr.cells;clear jh
  rcases Hl with Hl|Hl
  . have z0:((y.e:Int)==0)=false:=by have:=Hl.1;simp;omega
    have Hq:=zh Hl;clear Hl;go_wp2_with (fail);go_ret;exact zbU (c:=0) (deep:=deep) (g:=0) HE.o QB.o xw.o (.inl Hq.o)
  have TQ:y.e=0:=by rw[Hl.1.1];exact HE.o
  rw[TQ] at c2;have ee:=zh TQ;have yu: -1<=c:=by rw[Hl.2.1];exact (mJ s y.aQ xw.o.pr.sz.2.1).2.1
  have Hq:=zh Hl;clear Hl TQ;by_cases VI:c<0
  . have zc:¬ (0<=c):=by omega
    have HX:=zh (show c= -1\/c=124\/c=41 by omega);clear VI yu;go_wp2_with (fail);go_ret;exact zbU HE.o QB.o xw.o (.inr ⟨Hq.o,HX.o⟩)
  by_cases Xm:c=124
  . subst Xm
    clear VI yu;go_wp2_with (fail);go_ret;exact zbU HE.o QB.o xw.o (.inr ⟨Hq.o,by omega⟩)
  by_cases Nm:c=41
  . subst Nm
    clear VI yu Xm;go_wp2_with (fail);go_ret;exact zbU HE.o QB.o xw.o (.inr ⟨Hq.o,by omega⟩)
  have zc:0<=c:=by omega
  have z1:(c != 124)=true:=by simp[Xm]
  have z2:(c != 41)=true:=by simp[Nm]
  obtain⟨g,l,hg,Hb,Ee,FE⟩:=cat_go QB.o Hq.o (by omega);have hx:y.e=x.e/\y.wh=x.wh/\y.ns.length+20*x.aQ<=x.ns.length+20*y.aQ+1:=⟨Hq.o.1.1,Hq.o.1.2.1,Hq.o.1.2.2.1⟩;have hb:=YP.o;have VM:=Hq.o.2.1;have HK:=zh (rrep_any B pb s y QU wr deep (iX s g deep y.aQ) ee.o ⟨xw.o.pr.sz.1,xw.o.pr.sz.2.1⟩ (by omega)
   (IH.o g (by have:=HG.o;omega) B pb s y QU wr deep xw.o.pr ee.o (by omega) (by have:=xw.o.lt;omega) hb.2.1 (by rw[<-VM];exact zc) (by rw[<-VM];exact Nm) (by rw[<-VM];exact Xm) Ee))
  have HX:=zh (zAi Hb (zAi hx FE));have CF:=zh hg;clear Hb hx FE Ee hg VM hb Xm Nm VI yu;generalize repP s (iX s g deep y.aQ)=RP at HK HX;unfold bJ at HK;go_upto_region 5 with (go_at_call 169;refine HK.o.mono ?_;rintro e' w3 ⟨k2,y2,Ky,rfl,g1,g2,g3,g4,g5,g6⟩;have H3:=zh (zAi g1 (zAi g2 (zAi g3 (zAi g4 g5))));have HT:=zh g6;clear g1 g2 g3 g4 g5 g6)
  have VQ:y2.ns.length<=2000:=by
   have h1:=HT.o;have h2:=HX.o.2.1;have h3:=YP.o;have h4:=H3.o.1.sz;cases RP with
   | error er=>have:=h1.2.2.2;omega
   | ok r=>have:=h1.2.2.2.2;omega
  have QM:=zh (cat_next HX.o.1 H3.o.2.2.1 HX.o.2.1 HX.o.2.2 HT.o);have HN:=zh (kZ H3.o.1 2 k k2 (by omega) (λ_=>zLd xw.o.lt H3.o.2.2.1.length_le) (λ_ _=>H3.o.2.2.2.1) (by omega));have xg:zH (PK pb lv Ky w w3/\x.ns<+:y2.ns/\x.aQ<=y2.aQ):=zh ⟨xw.o.pk.trans H3.o.2.1,xw.o.pre.trans H3.o.2.2.1,zT xw.o.le H3.o.2.2.2.2⟩;clear VQ HX HT;unfold bJ at HN
  go_upto_region 6 with (go_at_call 151;refine HN.o.mono ?_;rintro e' w4 ⟨lv4,rfl,ho⟩;have H4:=zh ho;clear ho)
  have ac:zH (oQ B pb s x lv w y2.ns.length {y2 with ns:=y2.ns++[kY y2.ns 2 (.slice none 0 0) [] k k2]} lv4 w4):=zh ⟨H4.o.1,xg.o.1.trans H4.o.2,xg.o.2.1.trans (fE _ _),by simp,xg.o.2.2⟩;generalize y2.ns.length=k4 at ac QM ⊢;generalize ({y2 with ns:=y2.ns++[kY y2.ns 2 (.slice none 0 0) [] k k2]}:Pr)=y4 at ac QM H4;clear H4 H3 xg;have Qj:=zh (gQ B pb s y4 lv4 w4 ac.o.pr);have Qs:=zh (zes HE.o QB.o QM.o)
  have ag:zH (∀ w',PrO B pb s (dR s y4) lv4 w4 w'->oQ B pb s x lv w k4 (dR s y4) lv4 w'):=zh (λw' h=>ac.o.peek h);clear QM;generalize bQ s y4.aQ=cn at Qj Qs;obtain⟨c,n⟩:=cn;generalize dR s y4=y5 at Qj Qs ag;dsimp only at Qj Qs;unfold bJ at Qj;go_wp2_with (first|(go_at_call 150;refine Qj.o.mono ?_;rintro e' w5 ⟨rfl,ho⟩;have H5:=zh (ag.o _ ho);clear ho));go_roundg g
  case rel=>exact⟨g,k4,y5,lv4,c,rfl,by have:=CF.o;have:=HG.o;omega,rfl,rfl,H5.o,Qs.o⟩
  case measure=>have:=CF.o;have:=HG.o;omega
theorem nK (s:ByteArray) (f deep p:Nat) (t:aJ):eI s (f+1) deep p t=
 match cD s p with
 | .error e=>.error e
 | .ok c=>
  if c=124 then
   match iV s f deep (p+1) [] with
   | .error e=>.error e
   | .ok (u,q)=>eI s f deep q (.either t u)
  else .ok (t,p):=by rw[eI];rfl
theorem zbG (s:ByteArray) (f deep p:Nat):kH s (f+1) deep p=
 match iV s f deep p [] with
 | .error e=>.error e
 | .ok (t,q)=>eI s f deep q t:=by rw[kH];rfl
def EitS (s:ByteArray) (R:Except jU (aJ×Nat)) (x y:Pr) (k deep g:Nat):Prop:=
 y.e=x.e/\y.wh=x.wh/\y.ns.length+20*x.aQ<=x.ns.length+20*y.aQ+1/\∃ t,cO y.ns k t/\R=eI s g deep y.aQ t
def AltS (s:ByteArray) (R:Except jU (aJ×Nat)) (x y:Pr) (k:Nat) (c:Int) (n deep g:Nat):Prop:=
 EitS s R x y k deep g/\(c,n)=bQ s y.aQ/\cD s y.aQ=.ok c
section
variable {B pb:Nat} {s:ByteArray} {x y:Pr} {lv QU:Value} {w wr w':World} {k deep g:Nat} {R:Except jU (aJ×Nat)} {c:Int} {n:Nat}
theorem zer (he:x.e=0) (hR:R≠ .error (0,0)) (h:ErrS R x y\/EitS s R x y k deep g):ErrS R x (dR s y)\/AltS s R x (dR s y) k (bQ s y.aQ).1 (bQ s y.aQ).2 deep g:=by
 rcases h with h|h
 . rw[zaZ h.1];exact .inl h
 obtain⟨h1,h2,h3,t,h4,h5⟩:=h
 by_cases hb:(bQ s y.aQ).1<0/\0<(bQ s y.aQ).2
 . rw[vO (h1.trans he) hb]
   refine .inl ⟨(by decide:(2:Nat)≠0),?_,by show y.ns.length+20*x.aQ<=x.ns.length+20*y.aQ+6;omega⟩;cases g with
   | zero=>rw[eI] at h5;exact absurd h5 hR
   | succ g=>rw[h5,nK,eT,zP hb]
 rw[qS hb]
 exact .inr ⟨⟨h1,h2,h3,t,h4,h5⟩,rfl,by rw[eT,zN hb]⟩
theorem alt_out (he:x.e=0) (hR:R≠ .error (0,0)) (hl:oQ B pb s x lv w k y QU wr) (h:ErrS R x y\/(AltS s R x y k c n deep g/\c≠124)):yV B pb s x 1 6 0 R lv w (.returned (.int .i64 k)) wr:=by
 rcases h with⟨h1,h2,h3⟩|⟨⟨⟨h1,h2,h3,t,h4,h5⟩,h6,h7⟩,h8⟩
 . rw[h2]
   exact⟨k,y,QU,rfl,hl.pr,hl.pk,hl.pre,hl.lt,hl.le,rfl,rfl,h1,h3⟩
 cases g with
 | zero=>rw[eI] at h5;exact absurd h5 hR
 | succ g=>
  have e:R=.ok (t,y.aQ):=by
   rw[h5,nK,h7];dsimp only;rw[zN h8]
  rw[e];exact⟨k,y,QU,rfl,hl.pr,hl.pk,hl.pre,hl.lt,hl.le,h1,h2,rfl,h4,by omega⟩
theorem alt_go (hR:R≠ .error (0,0)) (h:AltS s R x y k 124 n deep g):∃ g2 t,g=g2+1/\n=1/\y.aQ<s.size/\cO y.ns k t/\iV s g2 deep (y.aQ+1) []≠ .error (0,0)/\R=match iV s g2 deep (y.aQ+1) [] with| .error e=>.error e| .ok (u,q)=>eI s g2 deep q (.either t u):=by
 obtain⟨⟨h1,h2,h3,t,h4,h5⟩,h6,h7⟩:=h;cases g with
 | zero=>rw[eI] at h5;exact absurd h5 hR
 | succ g=>
  rw[nK,h7] at h5;dsimp only at h5;rw[zP rfl] at h5;have hs:=lO (s:=s) (p:=y.aQ) (by rw[<-h6];show (0:Int)<=124/\(124:Int)<128;decide);rw[<-h6] at hs;exact⟨g,t,rfl,hs.1,hs.2,h4,λha=>hR (by rw[h5,ha]),h5⟩
theorem alt_first {RP:Except jU (aJ×Nat)} (hR:R=match RP with| .error e=>.error e| .ok (u,q)=>eI s g deep q u)
 (h:match (generalizing:=false) RP with
  | .ok (T,q)=>y2.e=x.e/\y2.wh=x.wh/\y2.aQ=q/\cO y2.ns k2 T/\y2.ns.length+20*x.aQ+0<=x.ns.length+20*y2.aQ+1
  | .error er=>y2.e=er.1/\y2.wh=er.2/\er.1≠0/\y2.ns.length+20*x.aQ<=x.ns.length+20*y2.aQ+6):
 ErrS R x y2\/EitS s R x y2 k2 deep g:=by
 cases RP with
 | error er=>
  obtain⟨h1,h2,h3,h4⟩:=h;exact .inl ⟨by rw[h1];exact h3,by rw[hR];show _=Except.error (y2.e,y2.wh);rw[h1,h2],h4⟩
 | ok r=>
  obtain⟨T,q⟩:=r;obtain⟨h1,h2,h3,h4,h5⟩:=h;exact .inr ⟨h1,h2,by omega,T,h4,by rw[hR,h3]⟩
theorem alt_next {RP:Except jU (aJ×Nat)} (Hb:cO y.ns k t) (hp:y.ns<+:y2.ns) (hx:y.e=x.e/\y.wh=x.wh/\y.ns.length+20*x.aQ<=x.ns.length+20*y.aQ+1)
 (hR:R=match RP with| .error e=>.error e| .ok (u,q)=>eI s g deep q (.either t u))
 (h:match (generalizing:=false) RP with
  | .ok (T,q)=>y2.e=y.e/\y2.wh=y.wh/\y2.aQ=q/\cO y2.ns k2 T/\y2.ns.length+20*(y.aQ+1)+0<=y.ns.length+20*y2.aQ+1
  | .error er=>y2.e=er.1/\y2.wh=er.2/\er.1≠0/\y2.ns.length+20*(y.aQ+1)<=y.ns.length+20*y2.aQ+6):
 ErrS R x {y2 with ns:=y2.ns++[kY y2.ns 3 (.slice none 0 0) [] k k2]}\/EitS s R x {y2 with ns:=y2.ns++[kY y2.ns 3 (.slice none 0 0) [] k k2]} y2.ns.length deep g:=by
 cases RP with
 | error er=>
  obtain⟨h1,h2,h3,h4⟩:=h;refine .inl ⟨by show y2.e≠0;rw[h1];exact h3,by rw[hR];show _=Except.error (y2.e,y2.wh);rw[h1,h2],?_⟩;show (y2.ns++[_]).length+20*x.aQ<=x.ns.length+20*y2.aQ+6;simp only[zLn,List.length_singleton];omega
 | ok r=>
  obtain⟨T,q⟩:=r;obtain⟨h1,h2,h3,h4,h5⟩:=h;refine .inr ⟨h1.trans hx.1,h2.trans hx.2.1,?_,.either t T,mk_either (Hb.mono hp) h4,?_⟩
  . show (y2.ns++[_]).length+20*x.aQ<=x.ns.length+20*y2.aQ+1
    simp only[zLn,List.length_singleton];omega
  rw[hR]
  show _=eI s g deep y2.aQ _;rw[h3]
end
theorem ralt_any (f:Nat) (ih:∀ g,g<f->RCatC g):RAltC f:=by
 intro B pb s x lv w deep h he hl hd Hv;cases f with
 | zero=>rw[kH] at Hv;exact absurd rfl Hv
 | succ f=>
 have HE:=zh he;have IH:=zh ih;have YP:zH (x.ns.length<=20*x.aQ+11/\deep<=8/\s.size<=60/\x.aQ<=s.size):=zh ⟨hl,hd,h.sz.1,h.sz.2.1⟩;obtain⟨R,hR⟩:=zE (kH s (f+1) deep x.aQ);rw[<-hR] at Hv ⊢;rw[zbG] at hR;have QB:=zh Hv;have HK:=zh (ih f (Nat.lt_succ_self f) B pb s x lv w deep h he hl hd (λha=>Hv (by rw[hR,ha])));clear ih he hl hd Hv h;generalize iV s f deep x.aQ []=RP at HK hR;have HR:=zh hR;clear hR;unfold bJ at HK ⊢;go_enter Tryz.func125,Tryz.ntmps125
 go_upto_region 2 with (go_at_call 149;refine HK.o.mono ?_;rintro e' w1 ⟨k,y,Vh,rfl,g1,g2,g3,g4,g5,g6⟩;have HL:=zh (oQ.mk g1 g2 g3 g4 g5);have HS:=zh (alt_first HR.o g6);clear g1 g2 g3 g4 g5 g6)
 clear HR;have Qj:=zh (gQ B pb s y Vh w1 HL.o.pr);have Qs:=zh (zer HE.o QB.o HS.o);have xw:zH (∀ w',PrO B pb s (dR s y) Vh w1 w'->oQ B pb s x lv w k (dR s y) Vh w'):=zh (λw' h=>HL.o.peek h);clear HS;generalize bQ s y.aQ=cn at Qj Qs;obtain⟨c,n⟩:=cn;generalize dR s y=y1 at Qj Qs xw;dsimp only at Qj Qs;unfold bJ at Qj;go_wp2_with (first|(go_at_call 150;refine Qj.o.mono ?_;rintro e' w2 ⟨rfl,ho⟩;have H2:=zh (xw.o _ ho);clear ho))
 go_loopg [5,6,7] f (λgh s5 s6 s7 wr=>∃ (G k:Nat) (y:Pr) (QU:Value) (c:Int) (n:Nat),G=gh/\G<=f/\s5=.int .i64 k/\s6=.int .i64 c/\s7=.int .i64 n/\oQ B pb s x lv w k y QU wr/\(ErrS R x y\/AltS s R x y k c n deep G))
 case atStart=>exact⟨f,k,y1,Vh,c,n,rfl,zR _,rfl,rfl,rfl,H2.o,Qs.o⟩
 case round=>
  clear H2 Qs xw HL;obtain⟨G,k,y,QU,c,n,hG,Fq,rfl,rfl,rfl,jh,Hl⟩:=hrel;have HG:=zh (zAi hG Fq);clear hG Fq;have xw:=zh jh;obtain⟨_,c1,c2,_⟩:=jh.pr.cells;have ff1:=aM wr pb 1 _ _ jh.pr.blk;clear jh
  rcases Hl with Hl|Hl
  . have z0:((y.e:Int)==0)=false:=by have:=Hl.1;simp;omega
    have Hq:=zh Hl;clear Hl;go_wp2_with (fail);go_ret;exact alt_out (c:=0) (n:=0) (deep:=deep) (g:=0) HE.o QB.o xw.o (.inl Hq.o)
  have TQ:y.e=0:=by rw[Hl.1.1];exact HE.o
  rw[TQ] at c2;have ee:=zh TQ;have Hq:=zh Hl;clear Hl TQ;by_cases Xm:c=124
  . subst Xm
    obtain⟨g,t,hg,hn,Qu,NR,X7,FE⟩:=alt_go QB.o Hq.o;subst hn;have hx:y.e=x.e/\y.wh=x.wh/\y.ns.length+20*x.aQ<=x.ns.length+20*y.aQ+1:=⟨Hq.o.1.1,Hq.o.1.2.1,Hq.o.1.2.2.1⟩;have yz:IntKind.i64.wrap ((y.aQ:Int)+1)=(y.aQ:Int)+1:=zIn _ (by have:=YP.o;omega)
    have xj:zH (eW B pb s {y with aQ:=y.aQ+1} QU (wr.setCell ⟨pb,1,none⟩ (.int .i64 ((y.aQ:Int)+1)))/\PK pb lv QU w (wr.setCell ⟨pb,1,none⟩ (.int .i64 ((y.aQ:Int)+1)))):=zh ⟨xw.o.pr.set 1 _ _ (by simp) rfl ⟨by show y.aQ+1<=s.size;omega,xw.o.pr.sz.2.2.1,xw.o.pr.sz.2.2.2⟩,xw.o.pk.trans (PK.set 1 _)⟩;have HX:=zh (zAi NR (zAi hx FE));have CF:=zh hg;have xi:=zh X7;clear NR hx FE hg X7;go_upto_region 5 with (fail)
    generalize wr.setCell ⟨pb,1,none⟩ (.int .i64 ((y.aQ:Int)+1))=w2 at xj ⊢;have HK:zH (Calls Tryz.prog 149 #[bJ pb,.int .i64 deep] w2 (yV B pb s {y with aQ:=y.aQ+1} 1 6 0 (iV s g deep (y.aQ+1) []) QU w2)):=
     zh (IH.o g (by have:=HG.o;have:=CF.o;omega) B pb s {y with aQ:=y.aQ+1} QU w2 deep xj.o.1 ee.o (by have:=HX.o.2.1;have:=YP.o;show y.ns.length<=20*(y.aQ+1)+11;omega) YP.o.2.1 xi.o)
    clear xi Qu;generalize iV s g deep (y.aQ+1) []=RP at HK HX;unfold bJ at HK;go_upto_region 6 with (go_at_call 149;refine HK.o.mono ?_;rintro e' w3 ⟨k2,y2,Ky,rfl,g1,g2,g3,g4,g5,g6⟩;have H3:=zh (zAi g1 (zAi g2 (zAi g3 (zAi g4 g5))));have HT:=zh g6;clear g1 g2 g3 g4 g5 g6)
    have UT:y.ns<+:y2.ns:=H3.o.2.2.1;have MV:y.aQ+1<=y2.aQ:=H3.o.2.2.2.2;have QM:=zh (alt_next HX.o.1 UT HX.o.2.1 HX.o.2.2 HT.o);have VQ:y2.ns.length<=2000:=by
     have h1:=HT.o;have h2:=HX.o.2.1;have h3:=YP.o;have h4:=H3.o.1.sz;cases RP with
     | error er=>
      omega
     | ok r=>
      omega
    have HN:=zh (kZ H3.o.1 3 k k2 (by omega) (λ_=>zLd xw.o.lt UT.length_le) (λ_ _=>H3.o.2.2.2.1) (by omega));have xg:zH (PK pb lv Ky w w3/\x.ns<+:y2.ns/\x.aQ<=y2.aQ):=zh ⟨xj.o.2.trans H3.o.2.1,xw.o.pre.trans UT,by have:=xw.o.le;omega⟩;clear VQ HX HT UT MV;unfold bJ at HN;go_upto_region 7 with (go_at_call 151;refine HN.o.mono ?_;rintro e' w4 ⟨lv4,rfl,ho⟩;have H4:=zh ho;clear ho)
    have ac:zH (oQ B pb s x lv w y2.ns.length {y2 with ns:=y2.ns++[kY y2.ns 3 (.slice none 0 0) [] k k2]} lv4 w4):=zh ⟨H4.o.1,xg.o.1.trans H4.o.2,xg.o.2.1.trans (fE _ _),by simp,xg.o.2.2⟩;generalize y2.ns.length=k4 at ac QM ⊢;generalize ({y2 with ns:=y2.ns++[kY y2.ns 3 (.slice none 0 0) [] k k2]}:Pr)=y4 at ac QM H4;clear H4 H3 xg;have Qj:=zh (gQ B pb s y4 lv4 w4 ac.o.pr);have Qs:=zh (zer HE.o QB.o QM.o)
    have ag:zH (∀ w',PrO B pb s (dR s y4) lv4 w4 w'->oQ B pb s x lv w k4 (dR s y4) lv4 w'):=zh (λw' h=>ac.o.peek h);clear QM;generalize bQ s y4.aQ=cn at Qj Qs;obtain⟨c,n⟩:=cn;generalize dR s y4=y5 at Qj Qs ag;dsimp only at Qj Qs;unfold bJ at Qj;go_wp2_with (first|(go_at_call 150;refine Qj.o.mono ?_;rintro e' w5 ⟨rfl,ho⟩;have H5:=zh (ag.o _ ho);clear ho));go_roundg g
    case rel=>exact⟨g,k4,y5,lv4,c,n,rfl,by have:=CF.o;have:=HG.o;omega,rfl,rfl,rfl,H5.o,Qs.o⟩
    case measure=>have:=CF.o;have:=HG.o;omega
  have z1:(c==124)=false:=by simp[Xm]
  have HC:=zh Xm;clear Xm;go_wp2_with (fail);go_ret;exact alt_out HE.o QB.o xw.o (.inr ⟨Hq.o,HC.o⟩)
theorem zfV:∀ g,RCatC g/\RAtomC g/\RAltC g:=by
 intro g
 induction g using Nat.strongRecOn with
 | ind g ih=>exact⟨rcat_any g λk hk=>(ih k hk).2.1,ratom_any g λk hk=>(ih k hk).2.2,ralt_any g λk hk=>(ih k hk).1⟩
def GoodC (c:List (Int×Int)):Prop:=gA c/\c.length<=62
def gY (b:Nat) (t:aJ):Prop:=(∀ c∈iZ t,GoodC c)/\jL t<=5*b*max 1 (eU t)/\∀ n,n<=65->lS t n<=5*b*(66-n)
def sO (b:Nat) (l:List aJ):Prop:=(∀ c∈pF l,GoodC c)/\oH l<=5*b*max 1 (iE l)/\∀ n,n<=65->qL l n<=5*b*(66-n)
theorem ze1 {n:Nat} (h:a<=b) (k:m<=n):5*a*m<=5*b*n:=Nat.mul_le_mul (Nat.mul_le_mul_left 5 h) k
theorem gY.mono {b2:Nat} (h:gY b t) (hb:b<=b2):gY b2 t:=⟨h.1,zT h.2.1 (ze1 hb (zR _)),λn hn=>zT (h.2.2 n hn) (ze1 hb (zR _))⟩
theorem zeZ {n x y:Nat} (hx:x<=5*a*m) (hy:y<=5*b*n) (hm:m<=k) (hn:n<=k):x+y<=5*(a+b)*k:=by
 have h1:5*a*m<=5*a*k:=Nat.mul_le_mul_left _ hm;have h2:5*b*n<=5*b*k:=Nat.mul_le_mul_left _ hn;have e:5*(a+b)*k=5*a*k+5*b*k:=by rw[Nat.mul_add,Nat.add_mul]
 omega
theorem yG {x:Nat} (hx:x<=5*b*m) (hm:1<=m):x+5<=5*(b+1)*m:=by
 have e:5*(b+1)*m=5*b*m+5*m:=by rw[Nat.mul_add,Nat.add_mul]
 omega
theorem zbY:∀ (a b:List aJ),oH (a++b)=oH a+oH b
 | [],b=>by simp[oH]
 | t::a,b=>by rw[List.cons_append,oH,oH,zbY a b];omega
theorem zci:∀ (a b:List aJ),iE (a++b)=iE a+iE b
 | [],b=>by simp[iE]
 | t::a,b=>by rw[List.cons_append,iE,iE,zci a b];omega
theorem zbW:∀ (a b:List aJ),pF (a++b)=pF a++pF b
 | [],b=>by simp[pF]
 | t::a,b=>by rw[List.cons_append,pF,pF,zbW a b,List.append_assoc]
theorem za5 (t:aJ):∀ m,oH (List.replicate m t)=m*jL t/\iE (List.replicate m t)=m*eU t/\∀ c∈pF (List.replicate m t),c∈iZ t
 | 0=>⟨by simp[oH],by simp[iE],λc hc=>by simp[pF] at hc⟩
 | m+1=>by
  obtain⟨h1,h2,h3⟩:=za5 t m;refine⟨?_,?_,λc hc=> ?_⟩
  . rw[List.replicate_succ,oH,h1,Nat.succ_mul];omega
  . rw[List.replicate_succ,iE,h2,Nat.succ_mul];omega
  rw[List.replicate_succ,pF,zMa] at hc
  rcases hc with hc|hc
  . exact hc
  exact h3 c hc
mutual
theorem za1:∀ (t:aJ),eU t=0->bT t=0
 | .cL c,h=>by simp[eU] at h
 | .row l,h=>by rw[eU] at h;rw[bT];exact ze2 l h
 | .either a b,h=>by
  rw[eU] at h;rw[bT,za1 a (by omega),za1 b (by omega)];rfl
 | .rep t m o,h=>by rw[eU] at h;rw[bT];exact za1 t h
theorem ze2:∀ (l:List aJ),iE l=0->fD l 0=0
 | [],_=>by rw[fD]
 | t::l,h=>by
  rw[iE] at h;rw[fD,za1 t (by omega)];exact ze2 l (by omega)
end
theorem gY.row {l:List aJ} (h:sO b l):gY b (.row l):=⟨by rw[iZ];exact h.1,by rw[jL,eU];exact h.2.1,λn hn=>by rw[lS];exact h.2.2 n hn⟩
theorem sO.nil (b:Nat):sO b []:=⟨λc hc=>by simp[pF] at hc,by simp[oH],λn _=>by rw[qL];exact zZ _⟩
theorem sO.snoc {l:List aJ} (h:sO a l) (k:gY b t):sO (a+b) (l++[t]):=by
 refine⟨λc hc=> ?_,?_,λn hn=> ?_⟩
 . rw[zbW,zMa] at hc
   rcases hc with hc|hc
   . exact h.1 c hc
   simp[pF] at hc;exact k.1 c hc
 . rw[zbY,zci]
   have e1:oH [t]=jL t:=by simp[oH]
   have e2:iE [t]=eU t:=by simp[iE]
   rw[e1,e2];exact zeZ h.2.1 k.2.1 (by omega) (by omega)
 rw[zcI t l n hn]
 split
 . rename_i Qt
   exact zeZ h.2.1 (k.2.2 _ Qt) (by omega) (by omega)
 exact zT (h.2.2 n hn) (ze1 (by omega) (zR _))
theorem gY.either (h:gY a t) (k:gY b u):gY (a+b+1) (.either t u):=by
 refine⟨λc hc=> ?_,?_,λn hn=> ?_⟩
 . rw[iZ,zMa] at hc
   rcases hc with hc|hc
   . exact h.1 c hc
   exact k.1 c hc
 . rw[jL,eU]
   have:=yG (zeZ h.2.1 k.2.1 (k:=max 1 (eU t+eU u)) (by omega) (by omega)) (by omega);omega
 rw[lS]
 split
 . rename_i Qt
   have:=yG (zeZ h.2.1 (k.2.2 _ Qt) (k:=66-n) (by omega) (by omega)) (by omega);rw[lI t n Qt];omega
 have:=yG (zT (h.2.2 n hn) (ze1 (show a<=a+b by omega) (zR _))) (by omega)
 omega
theorem gY.rep (h:gY b t) (m:Int) (o:Bool):gY (b+1) (.rep t m o):=by
 refine⟨by rw[iZ];exact h.1,?_,λn hn=> ?_⟩
 . rw[jL,eU]
   exact yG h.2.1 (by omega)
 rw[lS]
 exact yG (h.2.2 n hn) (by omega)
theorem gY.copies (h:gY b t) (hp:1<=eU t) (m k:Nat) (u:aJ) (hu:u=.rep t 1 false\/u=.rep t 0 true):gY (b+1) (.row (List.replicate m t++List.replicate k u)):=by
 have Tu:jL u=jL t+5/\eU u=eU t/\iZ u=iZ t:=by rcases hu with rfl|rfl<;>exact⟨by rw[jL],by rw[eU],by rw[iZ]⟩
 obtain⟨r1,r2,r3⟩:=za5 t m;obtain⟨s1,s2,s3⟩:=za5 u k;have Sh:jL t+5<=5*(b+1)*eU t:=by
  have h2:=h.2.1;rw[show max 1 (eU t)=eU t by omega] at h2;exact yG h2 hp
 refine gY.row ⟨λc hc=> ?_,?_,zcH _ λx hx=> ?_⟩
 . rw[zbW,zMa] at hc
   rcases hc with hc|hc
   . exact h.1 c (r3 c hc)
   exact h.1 c (Tu.2.2▸s3 c hc)
 . rw[zbY,zci,r1,r2,s1,s2,Tu.1,Tu.2.1,<-Nat.add_mul]
   have h1:m*jL t<=m*(jL t+5):=Nat.mul_le_mul_left _ (by omega);have h3:(m+k)*(jL t+5)<=(m+k)*(5*(b+1)*eU t):=Nat.mul_le_mul_left _ Sh;have e:(m+k)*(5*(b+1)*eU t)=5*(b+1)*((m+k)*eU t):=Nat.mul_left_comm _ _ _;have h4:5*(b+1)*((m+k)*eU t)<=5*(b+1)*max 1 ((m+k)*eU t):=Nat.mul_le_mul_left _ (by omega);have e2:m*(jL t+5)+k*(jL t+5)=(m+k)*(jL t+5):=(Nat.add_mul _ _ _).symm;omega
 have Xp:∀ n,n<=65->lS t n+5<=5*(b+1)*(66-n):=λn hn=>yG (h.2.2 n hn) (by omega)
 rcases List.mem_append.1 hx with hx|hx
 . obtain rfl:=List.eq_of_mem_replicate hx
   exact⟨by omega,λn hn=>by have:=Xp n hn;omega⟩
 obtain rfl:=List.eq_of_mem_replicate hx
 rw[Tu.1,Tu.2.1];refine⟨Sh,λn hn=> ?_⟩
 rcases hu with rfl|rfl
 . rw[lS];exact Xp n hn
 rw[lS];exact Xp n hn
theorem pf_times (ht:gY b t) (hp:p<s.size) (h:lE s p t=.ok (u,q)):p<q/\q<=s.size/\gY (b+1) u:=by
 rw[vX] at h;split at h
 . cases h
 rename_i lo q1 NM
 have h1:=rX NM;split at h
 . cases h
 rename_i hi q2 je
 have h2:q1<=q2:=by
  unfold kT at je;split at je
  . split at je
    . cases hn:dX s (q1+1) p with
      | error e=>rw[hn] at je;cases je
      | ok r=>rw[hn] at je;cases je;have:=rX hn;omega
    cases je;omega
  cases je;exact zR _
 split at h
 . cases h
 rename_i QX
 have XX:q2<s.size:=by
  have:pO s q2 125=true:=by
   cases hb:pO s q2 125 with
   | true=>rfl
   | false=>exact absurd (.inl hb) QX
  unfold pO at this;rw[Bool.and_eq_true,decide_eq_true_eq] at this;exact this.1
 have xp:1<=eU t:=by
  rcases Nat.eq_zero_or_pos (eU t) with h0|h0
  . exact absurd (.inr (.inr (.inr (.inr (za1 t h0))))) QX
  exact h0
 split at h
 . split at h
   . cases h
     exact⟨by omega,by omega,ht.rep 0 false⟩
   cases h
   exact⟨by omega,by omega,ht.copies xp _ 1 _ (.inl rfl)⟩
 cases h
 exact⟨by omega,by omega,ht.copies xp _ _ _ (.inr rfl)⟩
theorem zea {c:Int} (h:cD s p=.ok c) (hc:c≠ -1):p<s.size:=by
 rcases zLg p s.size with h1|h1
 . exact h1
 rw[eT,oI (by omega)] at h
 simp at h;omega
theorem ze0 (ht:gY b t) (hp:p<=s.size) (h:fQ s p t=.ok (u,q)):p<=q/\q<=s.size/\gY (b+(q-p)) u:=by
 unfold fQ at h;split at h
 . cases h
 rename_i c hc
 split at h
 . rename_i e
   have:=zea hc (by omega);cases h;exact⟨by omega,by omega,by rw[show p+1-p=1 by omega];exact ht.rep 0 false⟩
 split at h
 . rename_i e
   have:=zea hc (by omega);cases h;exact⟨by omega,by omega,by rw[show p+1-p=1 by omega];exact ht.rep 1 false⟩
 split at h
 . rename_i e
   have:=zea hc (by omega);cases h;exact⟨by omega,by omega,by rw[show p+1-p=1 by omega];exact ht.rep 0 true⟩
 split at h
 . rename_i e
   have:=zea hc (by omega);obtain⟨h1,h2,h3⟩:=pf_times ht this h;exact⟨by omega,h2,h3.mono (by omega)⟩
 cases h
 exact⟨zR _,hp,by rw[Nat.sub_self];exact ht⟩
theorem again_ne (h:fQ s p t=.error er):er.1≠0:=by
 unfold fQ at h;split at h
 . rename_i e he;cases h;exact oJ he
 split at h
 . cases h
 split at h
 . cases h
 split at h
 . cases h
 split at h
 . rw[vX] at h
   have Jr:∀ (p k:Nat) (e:jU),dX s p k=.error e->e.1≠0:=λp k e he=>by
    unfold dX at he;split at he
    . split at he
      . split at he
        . cases he;exact (by decide:(4:Nat)≠0)
        cases he
      cases he
    cases he;exact (by decide:(4:Nat)≠0)
   split at h
   . rename_i e he;cases h;exact Jr _ _ _ he
   split at h
   . rename_i e he
     cases h;unfold kT at he;split at he
     . split at he
       . rename_i q1 _ _ _ _
         cases hn:dX s (q1+1) p with
         | error e=>rw[hn] at he;cases he;exact Jr _ _ _ hn
         | ok r=>rw[hn] at he;cases he
       cases he
     cases he
   split at h
   . cases h;exact (by decide:(4:Nat)≠0)
   split at h
   . split at h<;>cases h
   cases h
 cases h
theorem zb6 {c:List (Int×Int)} (h:GoodC c) (hb:1<=b):gY b (.cL c):=by
 refine⟨λx hx=>by rw[iZ,zMs] at hx;subst hx;exact h,?_,λn hn=> ?_⟩
 . rw[jL,eU]
   show 2<=5*b*max 1 1;rw[Nat.max_self,Nat.mul_one];omega
 rw[lS]
 have:5*b*1<=5*b*(66-n):=Nat.mul_le_mul_left _ (by omega);omega
section
variable (s:ByteArray)
def PfAlt (f:Nat):Prop:=∀ deep p,p<=s.size->(3*(s.size-p)+2<=f->kH s f deep p≠ .error (0,0))/\∀ t q,kH s f deep p=.ok (t,q)->p<=q/\q<=s.size/\gY (q-p) t
def zen (f:Nat):Prop:=∀ deep p t b,p<=s.size->(3*(s.size-p)+1<=f->eI s f deep p t≠ .error (0,0))/\(gY b t->∀ u q,eI s f deep p t=.ok (u,q)->p<=q/\q<=s.size/\gY (b+(q-p)) u)
def PfRow (f:Nat):Prop:=∀ deep p l b,p<=s.size->(3*(s.size-p)+1<=f->iV s f deep p l≠ .error (0,0))/\(sO b l->∀ u q,iV s f deep p l=.ok (u,q)->p<=q/\q<=s.size/\gY (b+(q-p)) u)
def PfAtom (f:Nat):Prop:=∀ deep p,p<s.size->(3*(s.size-p)<=f->iX s f deep p≠ .error (0,0))/\∀ t q,iX s f deep p=.ok (t,q)->p<q/\q<=s.size/\gY (q-p) t
end
theorem qD (h:er.1≠0):(.error er:Except jU (aJ×Nat))≠ .error (0,0):=λe=>by
 injection e with e
 rw[e] at h;exact h rfl
theorem one_bad (hp:p<s.size) (h:(bQ s p).1<0):(bQ s p).2=1:=by
 unfold bQ at h ⊢;rw[zP hp] at h ⊢;split
 . rfl
 rename_i hb
 rw[zN hb] at h;dsimp only at h;omega
theorem pf_alt (h1:PfRow s f) (h2:zen s f):PfAlt s (f+1):=by
 intro deep p hp;rw[zbG];refine⟨λhf=> ?_,λt q h=> ?_⟩
 . have a:=(h1 deep p [] 0 hp).1 (by omega)
   cases hr:iV s f deep p [] with
   | error e=>rw[hr] at a;exact a
   | ok r=>
    obtain⟨t,q⟩:=r;obtain⟨b1,b2,b3⟩:=(h1 deep p [] 0 hp).2 (sO.nil 0) t q hr;exact (h2 deep q t 0 b2).1 (by omega)
 cases hr:iV s f deep p [] with
 | error e=>rw[hr] at h;cases h
 | ok r=>
  obtain⟨t1,q1⟩:=r;rw[hr] at h;obtain⟨b1,b2,b3⟩:=(h1 deep p [] 0 hp).2 (sO.nil 0) t1 q1 hr;obtain⟨c1,c2,c3⟩:=(h2 deep q1 t1 _ b2).2 b3 t q h;exact⟨by omega,c2,c3.mono (by omega)⟩
theorem pf_loop2 (h1:PfRow s f) (h2:zen s f):zen s (f+1):=by
 intro deep p t b hp;rw[nK];cases qe:cD s p with
 | error e=>
  refine⟨λ_=>qD (oJ qe),λ_ u q h=>by cases h⟩
 | ok c=>
  dsimp only;by_cases hc:c=124
  . rw[zP hc]
    have Hf:=zea qe (by omega);refine⟨λhf=> ?_,λhg u q h=> ?_⟩
    . have a:=(h1 deep (p+1) [] 0 (by omega)).1 (by omega)
      cases hr:iV s f deep (p+1) [] with
      | error e=>rw[hr] at a;exact a
      | ok r=>
       obtain⟨t1,q1⟩:=r;obtain⟨b1,b2,b3⟩:=(h1 deep (p+1) [] 0 (by omega)).2 (sO.nil 0) t1 q1 hr;exact (h2 deep q1 _ 0 b2).1 (by omega)
    cases hr:iV s f deep (p+1) [] with
    | error e=>rw[hr] at h;cases h
    | ok r=>
     obtain⟨t1,q1⟩:=r;rw[hr] at h;obtain⟨b1,b2,b3⟩:=(h1 deep (p+1) [] 0 (by omega)).2 (sO.nil 0) t1 q1 hr;obtain⟨c1,c2,c3⟩:=(h2 deep q1 _ _ b2).2 (hg.either b3) u q h;exact⟨by omega,c2,c3.mono (by omega)⟩
  rw[zN hc]
  refine⟨(λ_ h=>by cases h),λhg u q h=> ?_⟩;cases h;exact⟨zR _,hp,hg.mono (by omega)⟩
theorem pf_row (h1:PfAtom s f) (h2:PfRow s f):PfRow s (f+1):=by
 intro deep p l b hp;rw[qT];cases qe:cD s p with
 | error e=>
  refine⟨λ_=>qD (oJ qe),λ_ u q h=>by cases h⟩
 | ok c=>
  dsimp only;by_cases hc:c= -1\/c=124\/c=41
  . rw[zP hc]
    refine⟨(λ_ h=>by cases h),λhg u q h=> ?_⟩;cases h;exact⟨zR _,hp,(gY.row hg).mono (by omega)⟩
  rw[zN hc]
  have Hf:=zea qe (by omega);refine⟨λhf=> ?_,λhg u q h=> ?_⟩
  . have a:=(h1 deep p Hf).1 (by omega)
    cases hr:iX s f deep p with
    | error e=>rw[hr] at a;exact a
    | ok r=>
     obtain⟨t1,q1⟩:=r;obtain⟨b1,b2,b3⟩:=(h1 deep p Hf).2 t1 q1 hr;dsimp only;cases Ed:fQ s q1 t1 with
     | error e=>exact qD (again_ne Ed)
     | ok r2=>
      obtain⟨t2,q2⟩:=r2;obtain⟨d1,d2,d3⟩:=ze0 b3 b2 Ed;exact (h2 deep q2 _ 0 d2).1 (by omega)
  cases hr:iX s f deep p with
  | error e=>rw[hr] at h;cases h
  | ok r=>
   obtain⟨t1,q1⟩:=r;obtain⟨b1,b2,b3⟩:=(h1 deep p Hf).2 t1 q1 hr;rw[hr] at h;dsimp only at h;cases Ed:fQ s q1 t1 with
   | error e=>rw[Ed] at h;cases h
   | ok r2=>
    obtain⟨t2,q2⟩:=r2;rw[Ed] at h;obtain⟨d1,d2,d3⟩:=ze0 b3 b2 Ed;obtain⟨c1,c2,c3⟩:=(h2 deep q2 _ _ d2).2 (hg.snoc d3) u q h;exact⟨by omega,c2,c3.mono (by omega)⟩
theorem pf_atom (hs:s.size<=60) (h1:PfAlt s f):PfAtom s (f+1):=by
 intro deep p hp;rw[za4];cases qe:cD s p with
 | error e=>
  refine⟨λ_=>qD (oJ qe),λu q h=>by cases h⟩
 | ok c=>
  dsimp only;by_cases tZ:c=40
  . rw[zP tZ]
    by_cases h8:deep=8
    . rw[zP h8]
      exact⟨λ_=>qD (by decide:(5:Nat)≠0),λu q h=>by cases h⟩
    rw[zN h8]
    refine⟨λhf=> ?_,λu q h=> ?_⟩
    . have a:=(h1 (deep+1) (p+1) (by omega)).1 (by omega)
      cases hr:kH s f (deep+1) (p+1) with
      | error e=>rw[hr] at a;exact a
      | ok r=>
       obtain⟨t1,q1⟩:=r;dsimp only;cases Qy:cD s q1 with
       | error e=>exact qD (oJ Qy)
       | ok d=>
        dsimp only;split
        . exact λh=>by cases h
        exact qD (by decide:(2:Nat)≠0)
    cases hr:kH s f (deep+1) (p+1) with
    | error e=>rw[hr] at h;cases h
    | ok r=>
     obtain⟨t1,q1⟩:=r;rw[hr] at h;obtain⟨b1,b2,b3⟩:=(h1 (deep+1) (p+1) (by omega)).2 t1 q1 hr;dsimp only at h;cases Qy:cD s q1 with
     | error e=>rw[Qy] at h;cases h
     | ok d=>
      rw[Qy] at h;dsimp only at h;split at h
      . rename_i hd
        have:=zea Qy (by omega);cases h;exact⟨by omega,by omega,b3.mono (by omega)⟩
      cases h
  rw[zN tZ]
  by_cases TF:c=91
  . rw[zP TF]
    refine⟨λ_=> ?_,λu q h=> ?_⟩
    . cases hc:dH s (p+1) p with
      | error e=>exact qD (zev (by omega) hc)
      | ok r=>exact λh=>by cases h
    cases hc:dH s (p+1) p with
    | error e=>rw[hc] at h;cases h
    | ok r=>
     rw[hc] at h;obtain⟨l,q1⟩:=r;cases h;obtain⟨b1,b2,b3,b4⟩:=pf_class hc (by omega) hs;exact⟨by omega,b4,zb6 ⟨b1,b2⟩ (by omega)⟩
  rw[zN TF]
  by_cases Al:c=46
  . rw[zP Al]
    refine⟨(λ_ h=>by cases h),λu q h=> ?_⟩;cases h;exact⟨by omega,by omega,zb6 ⟨λr hr=>by simp at hr;rcases hr with rfl|rfl<;>decide,by decide⟩ (by omega)⟩
  rw[zN Al]
  split
  . exact⟨λ_=>qD (by decide:(2:Nat)≠0),λu q h=>by cases h⟩
  refine⟨λ_=> ?_,λu q h=> ?_⟩
  . cases hc:bP s p with
    | error e=>
     have:=oV (by omega) hc;rw[this];exact qD (by decide:(2:Nat)≠0)
    | ok r=>exact λh=>by cases h
  cases hc:bP s p with
  | error e=>rw[hc] at h;cases h
  | ok r=>
   rw[hc] at h;obtain⟨v,q1⟩:=r;cases h;obtain⟨b1,b2,b3,b4,b5⟩:=zbI hc (by omega);have h0:=b5 (by
    intro e;rw[e] at qe;cases qe;rw[eT] at e;split at e
    . cases e
    rename_i hb
    injection e with e
    have hn:=one_bad hp (by omega);exact hb ⟨by omega,by omega⟩)
   exact⟨h0.2,b4,zb6 ⟨λr hr=>by rw[zMs] at hr;subst hr;exact⟨h0.1,b2,h0.1,b2⟩,by simp⟩ (by omega)⟩
theorem pf_all (hs:s.size<=60):∀ f,PfAlt s f/\zen s f/\PfRow s f/\PfAtom s f
 | 0=>⟨λdeep p hp=>⟨λh=>by omega,λt q h=>by rw[kH] at h;cases h⟩,λdeep p t b hp=>⟨λh=>by omega,λ_ u q h=>by rw[eI] at h;cases h⟩,λdeep p l b hp=>⟨λh=>by omega,λ_ u q h=>by rw[iV] at h;cases h⟩,λdeep p hp=>⟨λh=>by omega,λt q h=>by rw[iX] at h;cases h⟩⟩
 | f+1=>by
  obtain⟨h1,h2,h3,h4⟩:=pf_all hs f;exact⟨pf_alt h3 h2,pf_loop2 h3 h2,pf_row h4 h3,pf_atom hs h1⟩
theorem zeq (hs:s.size<=60):kH s (4*s.size+10) 0 0≠ .error (0,0):=((pf_all hs (4*s.size+10)).1 0 0 (zZ _)).1 (by omega)
theorem zbC (hs:s.size<=60) (h:fZ s=.ok t):gY 60 t:=by
 unfold fZ at h;split at h
 . cases h
 rename_i u q hq
 split at h
 . cases h
 cases h
 obtain⟨h1,h2,h3⟩:=((pf_all hs _).1 0 0 (zZ _)).2 _ _ hq;exact h3.mono (by omega)
