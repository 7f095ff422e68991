/- Part of a proof. No condition. -/
import Derived.Sort.Row
import Derived.Test.YtghpmhllpaheiaaGreatDoorF07
set_option linter.unusedVariables false
set_option linter.unusedSimpArgs false
set_option maxRecDepth 100000
set_option maxHeartbeats 4000000
namespace Go.Proofs.YtghpmhllpaheiaaGreatDoor
open Go.RowKit
open Go.Sort (swp ltInt)
def gV (p:Int):List Int->List Int
 | []=>[]
 | x::r=>if x=p then gV x r else x::gV x r
def sZ:List Int->List Int
 | []=>[]
 | x::r=>x::gV x r
theorem xH:∀ (l:List Int) (p x:Int),gV p (l++[x])=gV p l++(if x=(l.getLast?).getD p then[] else[x])
 | [],p,x=>by simp[gV];split<;>simp_all
 | y::r,p,x=>by
  have h:(y::r).getLast?.getD p=(r.getLast?).getD y:=by
   rw[List.getLast?_cons];simp
  rw[h];simp only[List.cons_append,gV];rw[xH r y x];split<;>simp
theorem zfu (l:List Int) (x p:Int) (h:l.getLast?=some p):sZ (l++[x])=sZ l++(if x=p then[] else[x]):=by
 cases l with
 | nil=>cases h
 | cons y r=>
  simp only[List.cons_append,sZ];rw[xH];have:(r.getLast?).getD y=p:=by
   rw[List.getLast?_cons] at h;simpa using h
  rw[this]
theorem kP (d:Array Int) (k:Nat) (h:k<d.size):d.toList.take (k+1)=d.toList.take k++[d[k]!]:=by
 rw[List.take_succ_eq_append_getElem (by simpa using h)];congr 2;rw[getElem!_pos d k h];simp
theorem last_take (d:Array Int) (k:Nat) (h:k<d.size):(d.toList.take (k+1)).getLast?=some d[k]!:=by
 rw[kP d k h,List.getLast?_append];simp
theorem zcL (d:Array Int) (k:Nat) (h0:0<k) (h:k<d.size):sZ (d.toList.take (k+1))=sZ (d.toList.take k)++(if d[k]! =d[k-1]! then[] else[d[k]!]):=by
 obtain⟨j,rfl⟩:∃ j,k=j+1:=⟨k-1,by omega⟩;rw[kP d (j+1) h,zfu _ _ d[j]! (last_take d j (by omega))];rfl
theorem zam (b:Nat):∀ (vs:List Value) (o:Nat) (w:World) (c:Array Value) (t:TypeId),w.heap[b]?=some (.cells c t (0,0))->
 (∃ c',(w.setCells b o vs).heap[b]?=some (.cells c' t (0,0))/\c'.size=c.size/\∀ i,i<o->c'[i]?=c[i]?)/\w.grownBy (w.setCells b o vs) (some b)
 | [],o,w,c,t,h=>⟨⟨c,h,rfl,λ_ _=>rfl⟩,eK _ _⟩
 | v::r,o,w,c,t,h=>by
  obtain⟨⟨c',h1,h2,h3⟩,hg⟩:=zam b r (o+1) (w.setCell ⟨b,o,none⟩ v) _ t (aC w b o v c t _ h);refine⟨⟨c',h1,by rw[h2];simp,λi hi=> ?_⟩,aD (jN w b o v) hg⟩;rw[h3 i (by omega),Array.getElem?_setIfInBounds_ne (by omega)]
def CoO (blk:Nat) (cap:Nat) (d:Array Int) (w:World) (e:Ending) (w':World):Prop:=
 ∃ (d':Array Int) (r':List Value),e=.returned (.slice (some ⟨blk,0,none⟩) d'.size cap)/\d'.toList=sZ d.toList/\dQ w' blk d' r'/\w.grownBy w' (some blk)
theorem row_take {w:World} {blk:Nat} {c:Array Value} (d:Array Int) (m:Nat) (hm:m<=d.size) (h:w.heap[blk]?=some (.cells c 21 (0,0))) (hc:∀ i,i<m->c[i]?=some (.int .i32 d[i]!)):
 dQ w blk (d.extract 0 m) (c.toList.drop m):=by
 unfold dQ;rw[h];congr 2;apply Array.ext';simp only;have:c.toList.take m=((d.extract 0 m).toList.map (Value.int .i32)):=by
  apply List.ext_getElem?;intro i
  rcases zLg i m with hi|hi
  . rw[List.getElem?_take_of_lt hi,Array.getElem?_toList,hc i hi]
    simp[hm,hi];exact getElem!_pos d i (by omega)
  rw[zGn (by simp;omega),zGn (by simp;omega)]
 rw[<-this,List.take_append_drop]
theorem zdw (d:Array Int) (k:Nat) (h:k<d.size) (x:Int):(d.setIfInBounds k x).toList.take (k+1)=d.toList.take k++[x]:=by
 rw[kP _ k (by simpa using h)];congr 1
 . rw[Array.toList_setIfInBounds,List.take_set_of_le (zR _)]
 simp[h]
theorem zdK (blk n cap:Nat) (r:List Value) (d:Array Int) (w:World) (hR:dQ w blk d r) (hn:d.size=n) (h2:2<=n) (Xp:n<=cap) (Qc:n<1000000):
 Calls Tryz.prog 84 #[.slice (some ⟨blk,0,none⟩) n cap] w (CoO blk cap d w):=by
 have K6:¬ (n:Int)<2:=by omega
 have HR:=zh hR;have HN:=zh hn;clear hR hn;go_enter Tryz.func84,Tryz.ntmps84;go_wp2_with (fail);go_loopw [3] (λs3 wr=>∃ k:Nat,s3=.int .i64 k/\1<=k/\k<=n/\sZ (d.toList.take k)=d.toList.take k/\iK blk n r w d wr) (λs3 _=>n-(RowKit.intOf s3).toNat)
 case atStart=>exact⟨1,rfl,by omega,by omega,by rw[kP d 0 (by have:=HN.o;omega)];rfl,iK.refl HR.o HN.o⟩
 case round=>
  obtain⟨k,rfl,Kl,P6,hE,hS⟩:=hrel;have HE:=zh hE;have HS:=zh hS;clear hE hS;by_cases Hf:k<n
  . have hz:(k:Int)<(n:Int):=by omega
    obtain⟨p,hp⟩:=zE (k-1);have hw:IntKind.i64.wrap ((k:Int)-1)=(p:Int):=by rw[zIn _ (by omega)];omega
    have TN:(p:Int)<(n:Int):=by omega
    have c0:=HS.o.2.1.cell k (by have:=HN.o;omega);have c1:=HS.o.2.1.cell p (by have:=HN.o;omega);have Hl:=zcL d k (by omega) (by have:=HN.o;omega);rw[<-hp,HE.o] at Hl;have Hq:=zh Hl;clear hp Hl;cases he:(d[k]! ==d[p]!) with
    | false=>
     have qo:d[k]!≠d[p]!:=by simpa using he
     have Nc:=zh qo;clear qo;go_wp2_with (fail);go_quiet (fail);go_wp2_with (fail);go_roundw
     case rel=>exact⟨k+1,by go_num,by omega,by omega,by rw[Hq.o,zN Nc.o,kP d k (by have:=HN.o;omega)],HS.o.drewN _⟩
     case measure=>(simp[zI]<;>omega)
    | true=>
     have heq:d[k]! =d[p]!:=by simpa using he
     have We:=zh heq;clear heq;go_wp2_with (fail);go_quiet (fail);have Qs:=zh (HS.o.drewN nq);generalize wr.drewN nq=w2 at Qs ⊢;clear c0 c1 HS;go_wp2_with (fail);have yp:∀ (ty:TypeId) (w3:World) (kk:Nat) (dk:Array Int),dk.size=n->dQ w3 blk dk r->kk<n->(Builtin.clear_ #[73] ty #[.slice (some ⟨blk,kk,none⟩) (n-kk) (cap-kk)]).run Tryz.prog w3=.ok (.tuple #[]) (w3.setCells blk kk (List.replicate (n-kk) (.int .i32 0))):=by
      intro ty w3 kk dk JV Hb ZE;exact Lib.run_clear_slice w3 _ _ ty _ Tryz.underlying73 Tryz.zeroValue21 rfl rfl blk kk _ _ (by omega) (λj hj=>by rw[Hb.cell (kk+j) (by omega)];rfl) (λj hj=>Hb.free _)
     have YJ:=zh yp;clear yp;go_loopw [3,5] (λs3 s5 wr=>∃ (kk k2:Nat) (dk:Array Int),s3=.int .i64 kk/\s5=.int .i64 k2/\1<=k2/\k+k2<=n/\kk<k+k2/\iK blk n r w dk wr/\(∀ i,k+k2<=i+1->i<n->dk[i]! =d[i]!)/\dk.toList.take kk=sZ (d.toList.take (k+k2))) (λ_ s5 _=>n-(RowKit.intOf s5).toNat)
     case atStart=>exact⟨k,1,d,rfl,rfl,by omega,by omega,by omega,Qs.o,λi _ _=>rfl,by rw[Hq.o,zP We.o,List.append_nil]⟩
     case round=>
      obtain⟨kk,k2,dk,rfl,rfl,h21,h2n,ZE,hS,Jy,RS⟩:=hrel;have V6:=zh hS;have JN:=zh Jy;have JH:=zh RS;clear hS Jy RS;by_cases Yt:k+k2<n
      . obtain⟨j,hj⟩:∃ j,j+1=k2:=⟨k2-1,by omega⟩
        have QO:IntKind.i64.wrap ((k2:Int)-1)=(j:Int):=by rw[zIn _ (by omega)];omega
        have J4:(k2:Int)<((n-k:Nat):Int):=by omega
        have Cx:(j:Int)<((n-k:Nat):Int):=by omega
        have Oe:(kk:Int)<(n:Int):=by omega
        have Nz:=V6.o.2.1.cell (k+k2) (by have:=V6.o.1;omega);have gn:=V6.o.2.1.cell (k+j) (by have:=V6.o.1;omega);rw[JN.o (k+k2) (by omega) (by omega)] at Nz;rw[JN.o (k+j) (by omega) (by omega)] at gn;have Tp:=zcL d (k+k2) (by omega) (by have:=HN.o;omega);rw[show k+k2-1=k+j by omega] at Tp;have xy:=zh Tp;clear hj Tp;cases CZ:(d[k+k2]! ==d[k+j]!) with
        | true=>
         have oy:(d[k+k2]! != d[k+j]!)=false:=by simpa using CZ
         have AO:d[k+k2]! =d[k+j]!:=by simpa using CZ
         have bz:=zh AO;clear AO;go_wp2_with (fail);go_quiet (fail);go_wp2_with (fail);go_roundw
         case rel=>exact⟨kk,k2+1,dk,rfl,by go_num,by omega,by omega,by omega,V6.o.drewN _,λi h1 h2=>JN.o i (by omega) h2,by rw[JH.o,<-Nat.add_assoc,xy.o,zP bz.o,List.append_nil]⟩
         case measure=>(simp[zI]<;>omega)
        | false=>
         have oy:(d[k+k2]! != d[k+j]!)=true:=by simpa using CZ
         have AO:d[k+k2]!≠d[k+j]!:=by simpa using CZ
         have bz:=zh AO;clear AO;go_wp2_with (fail);go_quiet (fail);have QC:=zh (V6.o.drewN nq);generalize wr.drewN nq=w3 at QC ⊢;clear Nz gn V6;have Nz:=QC.o.2.1.cell (k+k2) (by have:=QC.o.1;omega);rw[JN.o (k+k2) (by omega) (by omega)] at Nz;have F7:=QC.o.2.1.cell kk (by have:=QC.o.1;omega);have Uz:=QC.o.2.1.free kk;go_wp2_with (fail);go_roundw
         case rel=>
          refine⟨kk+1,k2+1,dk.setIfInBounds kk d[k+k2]!,by go_num,by go_num,by omega,by omega,by omega,⟨by simp;exact QC.o.1,QC.o.2.1.set kk (by have:=QC.o.1;omega) _,aD QC.o.2.2 (jN _ _ _ _)⟩,λi h1 h2=> ?_,?_⟩
          . rw[Go.Sort.getElem!_set_other _ _ _ _ (by omega)]
            exact JN.o i (by omega) h2
          . rw[zdw dk kk (by have:=QC.o.1;omega),JH.o,<-Nat.add_assoc,xy.o,zN bz.o]
         case measure=>(simp[zI]<;>omega)
      have J4:¬ (k2:Int)<((n-k:Nat):Int):=by omega
      have Oe:(kk:Int)<=(n:Int):=by omega
      have Je:=λty=>YJ.o ty wr kk dk V6.o.1 V6.o.2.1 (by omega);go_wp2_with (fail);go_ret;obtain⟨⟨c',h1,h3,h4⟩,hg⟩:=zam blk (List.replicate (n-kk) (.int .i32 0)) kk wr _ _ V6.o.2.1;have DC:=V6.o.1;refine⟨dk.extract 0 kk,c'.toList.drop kk,?_,?_,row_take dk kk (by omega) h1 λi hi=> ?_,aD V6.o.2.2 hg⟩
      . have e:(dk.extract 0 kk).size=kk:=by simp;omega
        rw[e];rfl
      . have e:(dk.extract 0 kk).toList=dk.toList.take kk:=by simp
        have e2:d.toList.take (k+k2)=d.toList:=by rw[List.take_of_length_le];have:=HN.o;simp;omega
        rw[e,JH.o,e2]
      rw[h4 i hi]
      have XA:=V6.o.2.1.cell i (by omega);rw[aB wr blk i _ _ _ V6.o.2.1] at XA;exact XA
  have hz:¬ (k:Int)<(n:Int):=by omega
  go_wp2;go_ret;have QN:d.toList.take k=d.toList:=by rw[List.take_of_length_le];have:=HN.o;simp;omega
  have e:=HE.o;rw[QN] at e;exact⟨d,r,by rw[HN.o];rfl,e.symm,HS.o.2.1,HS.o.2.2⟩
