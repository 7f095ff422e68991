/- Part of a proof. No condition. -/
import Derived.Sort.Row
import Derived.Test.YtmfnmkccbldfpaaGreatDoorS07
set_option linter.unusedVariables false
set_option linter.unusedSimpArgs false
set_option maxRecDepth 100000
set_option maxHeartbeats 4000000
namespace Go.Proofs.YtmfnmkccbldfpaaGreatDoor
open Go.RowKit Tryz
open Go.Sort (swp ltInt)
def jX (p:Int):List Int->List Int
 | []=>[]
 | x::r=>if x=p then jX x r else x::jX x r
def zc9:List Int->List Int
 | []=>[]
 | x::r=>x::jX x r
theorem zaE:∀ (l:List Int) (p x:Int),jX p (l++[x])=jX p l++(if x=(l.getLast?).getD p then[] else[x])
 | [],p,x=>by rfl
 | y::r,p,x=>by
  have h:(y::r).getLast?.getD p=(r.getLast?).getD y:=by
   rw[List.getLast?_cons];simp
  rw[h];simp only[List.cons_append,jX];rw[zaE r y x]
  grind
theorem zis (l:List Int) (x p:Int) (h:l.getLast?=some p):zc9 (l++[x])=zc9 l++(if x=p then[] else[x]):=by
 cases l with
 | nil=>cases h
 | cons y r=>
  simp_all[zc9,zaE,List.getLast?_cons]
theorem qF (d:Array Int) (k:Nat) (h:k<d.size):d.toList.take (k+1)=d.toList.take k++[d[k]!]:=by
 grind [List.take_succ_eq_append_getElem]
theorem last_take (d:Array Int) (k:Nat) (h:k<d.size):(d.toList.take (k+1)).getLast?=some d[k]!:=by
 grind
theorem zfd (d:Array Int) (k:Nat) (h0:0<k) (h:k<d.size):zc9 (d.toList.take (k+1))=zc9 (d.toList.take k)++(if d[k]! =d[k-1]! then[] else[d[k]!]):=by
 obtain⟨j,rfl⟩:∃ j,k=j+1:=⟨k-1,zo⟩
 grind [qF,zis,last_take]
theorem rK (b:Nat):∀ (vs:ζ) (o:Nat) (w:ω) (c:Array Value) (t:TypeId),w.h b c t->
 (∃ c',(w.setCells b o vs).h b c' t/\c'.size=c.size/\∀ i,i<o->c'[i]?=c[i]?)/\w.grownBy (w.setCells b o vs) (some b)
 | [],o,w,c,t,h=>⟨⟨c,h,rfl,λ_ _=>rfl⟩,eN _ _⟩
 | v::r,o,w,c,t,h=>by
  obtain⟨⟨c',h1,h2,h3⟩,hg⟩:=rK b r (o+1) (ς w (b.p o) v) _ t (aB w b o v c t _ h);refine⟨⟨c',h1,zg,λi hi=> ?_⟩,aC (lV w b o v) hg⟩
  grind
def CoO (blk:Nat) (cap:Nat) (d:Array Int) (w:ω) (e:Ending) (w':ω):Prop:=
 ∃ (d':Array Int) (r':ζ),e=ρ (σ blk d'.size cap)/\d'.toList=zc9 d.toList/\eP w' blk d' r'/\w.g w' blk
theorem row_take {w:ω} {blk:Nat} {c:Array Value} (d:Array Int) (m:Nat) (hm:m<=d.size) (h:w.h blk c 21) (hc:∀ i,i<m->c[i]?=some (.int .i32 d[i]!)):
 eP w blk (d.extract 0 m) (c.toList.drop m):=by
 unfold eP;rw[h];congr 2;apply Array.ext';simp only;have:c.toList.take m=((d.extract 0 m).toList.map (Value.int .i32)):=by
  apply List.ext_getElem?;intro i
  rcases zLg i m with hi|hi
  . grind
  grind
 grind [List.take_append_drop]
theorem zf8 (d:Array Int) (k:Nat) (h:k<d.size) (x:Int):(d.setIfInBounds k x).toList.take (k+1)=d.toList.take k++[x]:=by
 grind [qF,List.take_set_of_le]
theorem zgo (blk n cap:Nat) (r:ζ) (d:Array Int) (w:ω) (hR:eP w blk d r) (hn:d.size=n) (h2:2<=n) (Xi:n<=cap) (Hv:n<1000000):
 Γ 107 #[σ blk n cap] w (CoO blk cap d w):=by
 have:¬ (n:Int)<2:=zo
 have HN:=zh hn;clear hn;go_in;go_wp2;go_loopw [3] (λs3 wr=>∃ k:Nat,s3=ι k/\1<=k/\k<=n/\zc9 (d.toList.take k)=d.toList.take k/\jW blk n r w d wr) (λs3 _=>n-(ϑ s3).toNat)
 case atStart=>exact⟨1,rfl,zo,zo,by rw[qF d 0 zzBv];rfl,jW.refl hR HN.o⟩
 case round=>
  obtain⟨k,rfl,Yr,Au,hE,hS⟩:=hrel;by_cases Hf:k<n
  . have hz:=zt k n
    obtain⟨p,hp⟩:=zE (k-1);have:IntKind.i64.wrap ((k:Int)-1)=(p:Int):=by rw[lM];omega
    have:=zt p n
    have c0:=hS.2.1.cell k zzBv;have c1:=hS.2.1.cell p zzBv;have Hh:=zfd d k zo zzBv;rw[<-hp,hE] at Hh;clear hp;cases he:(d[k]! ==d[p]!) with
    | false=>
     have qg:d[k]!≠d[p]!:=by simpa using he
     go_wp2;go_quiet (fail);go_wp2;go_roundw
     case rel=>exact⟨k+1,by go_num,zo,zo,by rw[Hh,zN qg,qF d k zzBv],hS.drewN _⟩
     case measure=>exact zY
    | true=>
     have heq:d[k]! =d[p]!:=by simpa using he
     go_wp2;go_quiet (fail);have QS:=zh (hS.drewN nq);generalize wr.drewN nq=w2 at QS ⊢;clear c0 c1;go_wp2;have ym:∀ (ty:TypeId) (w3:ω) (kk:Nat) (dk:Array Int),dk.size=n->eP w3 blk dk r->kk<n->(Builtin.clear_ #[180] ty #[τ (some (blk.p kk)) (n-kk) (cap-kk)]).run prog w3=.ok (ϕ #[]) (w3.setCells blk kk (ψ (n-kk) (ξ 0))):=by
      intro ty w3 kk dk Dg Hb SH;exact Lib.run_clear_slice w3 _ _ ty _ underlying180 zeroValue21 rfl rfl blk kk _ _ zo (λj hj=>by rw[Hb.cell (kk+j) zo];rfl) (λj hj=>Hb.free _)
     go_loopw [3,5] (λs3 s5 wr=>∃ (kk k2:Nat) (dk:Array Int),s3=ι kk/\s5=ι k2/\1<=k2/\k+k2<=n/\kk<k+k2/\jW blk n r w dk wr/\(∀ i,k+k2<=i+1->i<n->dk[i]! =d[i]!)/\dk.toList.take kk=zc9 (d.toList.take (k+k2))) (λ_ s5 _=>n-(ϑ s5).toNat)
     case atStart=>exact⟨k,1,d,rfl,rfl,zo,zo,zo,QS.o,λi _ _=>rfl,by rw[Hh,zP heq,List.append_nil]⟩
     case round=>
      obtain⟨kk,k2,dk,rfl,rfl,h21,h2n,SH,hS,Xn,Za⟩:=hrel;by_cases Q9:k+k2<n
      . obtain⟨j,hj⟩:∃ j,j+1=k2:=⟨k2-1,zo⟩
        have:IntKind.i64.wrap ((k2:Int)-1)=(j:Int):=by rw[lM];omega
        have Pq:(k2:Int)<((n-k:Nat):Int):=zo
        have:(j:Int)<((n-k:Nat):Int):=zo
        have R6:=zt kk n
        have CO:=hS.2.1.cell (k+k2) (by have:=hS.1;omega);have M4:=hS.2.1.cell (k+j) (by have:=hS.1;omega);rw[Xn (k+k2) zo zo] at CO;rw[Xn (k+j) zo zo] at M4;have Kc:=zfd d (k+k2) zo zzBv;rw[show k+k2-1=k+j by omega] at Kc;cases Dh:(d[k+k2]! ==d[k+j]!) with
        | true=>
         have Z7:(d[k+k2]! != d[k+j]!)=false:=by simpa using Dh
         have UU:d[k+k2]! =d[k+j]!:=by simpa using Dh
         go_wp2;go_quiet (fail);go_wp2;go_roundw
         case rel=>exact⟨kk,k2+1,dk,rfl,by go_num,zo,zo,zo,hS.drewN _,λi h1 h2=>Xn i zo h2,by rw[Za,<-Nat.add_assoc,Kc,zP UU,List.append_nil]⟩
         case measure=>exact zY
        | false=>
         have Z7:(d[k+k2]! != d[k+j]!)=true:=by simpa using Dh
         have UU:d[k+k2]!≠d[k+j]!:=by simpa using Dh
         go_wp2;go_quiet (fail);have Q5:=zh (hS.drewN nq);generalize wr.drewN nq=w3 at Q5 ⊢;clear CO M4;have CO:=Q5.o.2.1.cell (k+k2) zzBk;rw[Xn (k+k2) zo zo] at CO;have:=Q5.o.2.1.cell kk zzBk;have:=Q5.o.2.1.free kk;go_wp2;go_roundw
         case rel=>
          refine⟨kk+1,k2+1,dk.setIfInBounds kk d[k+k2]!,by go_num,by go_num,zo,zo,zo,⟨by simp;exact Q5.o.1,Q5.o.2.1.set kk zzBk _,aC Q5.o.2.2 (lV _ _ _ _)⟩,λi h1 h2=> ?_,?_⟩
          . rw[Go.Sort.getElem!_set_other _ _ _ _ zo]
            exact Xn i zo h2
          . rw[zf8 dk kk zzBk,Za,<-Nat.add_assoc,Kc,zN UU]
         case measure=>exact zY
      have Pq:¬ (k2:Int)<((n-k:Nat):Int):=zo
      have R6:=zu kk n
      have:=λty=>ym ty wr kk dk hS.1 hS.2.1 zo;go_wp2;go_ret;obtain⟨⟨c',h1,h3,h4⟩,hg⟩:=rK blk (List.replicate (n-kk) (ξ 0)) kk wr _ _ hS.2.1;have:=hS.1;refine⟨dk.extract 0 kk,c'.toList.drop kk,?_,?_,row_take dk kk zo h1 λi hi=> ?_,aC hS.2.2 hg⟩
      . have e:(dk.extract 0 kk).size=kk:=zx
        rw[e];rfl
      . have e:(dk.extract 0 kk).toList=dk.toList.take kk:=zs
        have e2:d.toList.take (k+k2)=d.toList:=by rw[List.take_of_length_le];have:=HN.o;simp;omega
        rw[e,Za,e2]
      rw[h4 i hi]
      have Vn:=hS.2.1.cell i zo;rw[bF wr blk i _ _ _ hS.2.1] at Vn;exact Vn
  have hz:=zn k n
  go_wp2;go_ret;have YH:d.toList.take k=d.toList:=by rw[List.take_of_length_le];have:=HN.o;simp;omega
  have e:=hE;rw[YH] at e;exact⟨d,r,by rw[HN.o];rfl,e.symm,hS.2.1,hS.2.2⟩
