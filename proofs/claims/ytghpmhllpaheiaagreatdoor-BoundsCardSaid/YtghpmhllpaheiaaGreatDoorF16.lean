/- Part of a proof. No condition. -/
import Derived.Laws.EntriesVeiled
import Derived.Test.YtghpmhllpaheiaaGreatDoorF14
set_option linter.unusedVariables false
set_option linter.unusedSimpArgs false
set_option maxRecDepth 100000
set_option maxHeartbeats 4000000
namespace Go.Proofs.YtghpmhllpaheiaaGreatDoor
open Go.RowKit Go.Lib
variable {G:List bY} {tag:Nat->Nat} {w:World}
theorem dfs_lt (Ey:∀ i j,i<G.length->j∈bC G i->j<G.length):∀ (f:Nat),
 (∀ k l l2,uC G f k l=some l2->k<G.length->(∀ x∈l,x<G.length)->∀ x∈l2,x<G.length)/\(∀ r l l2,mP G f r l=some l2->(∀ x∈r,x<G.length)->(∀ x∈l,x<G.length)->∀ x∈l2,x<G.length):=by
 intro f
 induction f with
 | zero=>exact⟨λk l l2 h=>(by rw[uC] at h;cases h),λr l l2 h=>(by rw[mP] at h;cases h)⟩
 | succ f ih=>
  refine⟨λk l l2 h hk hl=> ?_,λr l l2 h hr hl=> ?_⟩
  . rw[uC] at h
    split at h
    . cases h;exact hl
    refine ih.2 _ _ _ h (λx hx=>Ey k x hk hx) (λx hx=> ?_)
    rcases List.mem_append.1 hx with h1|h1
    . exact hl x h1
    rw[zMs] at h1;rw[h1];exact hk
  cases r with
  | nil=>rw[mP] at h;cases h;exact hl
  | cons k r=>
   rw[mP] at h;split at h
   . cases h
   rename_i s2 e
   exact ih.2 _ _ _ h (λx hx=>hr x (List.mem_cons_of_mem _ hx)) (ih.1 _ _ _ e (hr k (List.mem_cons_self ..)) hl)
def ReachO (G:List bY) (tag:Nat->Nat) (Hc:List Nat) (vs:List Value) (l2:List Nat) (w:World) (e:Ending) (w':World):Prop:=
 e=.returned (.tuple #[nY (aO G l2),.bool (iR G l2)])/\∃ Hd,pH w' Hd Hc vs G (λ_=>false)/\pD tag Hd w w'
theorem pD.below {Hd:Nat->Nat} {w':World} (h:Below w.heap.size w w') (ht:∀ b,b<w.heap.size->Hd b=tag b):pD tag Hd w w':=⟨h.os,h.tape,h.output,h.size,ht,λb hb _=>h.block b hb⟩
theorem zed (w:World) (tag:Nat->Nat) (Hc:List Nat) (vs:List Value) (G:List bY) (seen:Nat->Bool) (hK:pH w tag Hc vs G seen):
 ∃ Hd,RAt ((((w.alloc (.cells #[.int .u64 0,.int .u64 0] 147)).alloc (.cells #[.bool false] 4)).alloc (.cells #[.slice none 0 0] 134)).alloc (.cells #[zf4 (w.heap.size+1+1) (w.heap.size+1) w.heap.size (w.heap.size+1+1+1)] 207)) Hd (w.heap.size+1+1) (w.heap.size+1) w.heap.size (w.heap.size+1+1+1) Hc [] false (0,0) (.slice none 0 0)/\
  pH ((((w.alloc (.cells #[.int .u64 0,.int .u64 0] 147)).alloc (.cells #[.bool false] 4)).alloc (.cells #[.slice none 0 0] 134)).alloc (.cells #[zf4 (w.heap.size+1+1) (w.heap.size+1) w.heap.size (w.heap.size+1+1+1)] 207)) Hd Hc vs G seen/\
  pD tag Hd w ((((w.alloc (.cells #[.int .u64 0,.int .u64 0] 147)).alloc (.cells #[.bool false] 4)).alloc (.cells #[.slice none 0 0] 134)).alloc (.cells #[zf4 (w.heap.size+1+1) (w.heap.size+1) w.heap.size (w.heap.size+1+1+1)] 207)):=by
 have hb:Below w.heap.size w ((((w.alloc (.cells #[.int .u64 0,.int .u64 0] 147)).alloc (.cells #[.bool false] 4)).alloc (.cells #[.slice none 0 0] 134)).alloc (.cells #[zf4 (w.heap.size+1+1) (w.heap.size+1) w.heap.size (w.heap.size+1+1+1)] 207)):=
  ((((zBr _ w).alloc (zR _) _).alloc (by simp) _).alloc (by simp;omega) _).alloc (by simp;omega) _
 have ht:∀ b,b<w.heap.size->(λb=>if b<w.heap.size then tag b else 8) b=tag b:=λb hb=>zP hb;refine⟨λb=>if b<w.heap.size then tag b else 8,⟨?_,nL _ _ _,?_,?_,?_,zN (by omega),zN (by omega),zN (by omega),zN (by omega),by omega,λg hg=>by cases hg⟩,hK.apart ht λb Q1 _=>hb.block b Q1,pD.below hb ht⟩
 . rw[aN,zN (by simp),aN,zP (by simp)]
 . rw[aN,zN (by simp),aN,zN (by simp),aN,zP (by simp)]
 . unfold jE
   rw[aN,zN (by simp;omega),aN,zN (by simp;omega),aN,zN (by simp),aN,zP rfl];rfl
 rw[aN,zP (by simp)]
structure zcy (G:List bY) (tag:Nat->Nat) (qa ea sa wa:Nat) (Hc:List Nat) (vs:List Value) (w:World) (l2:List Nat) (qv:Value) (Qd:Nat->Nat) (j:Nat) (wr:World):Prop where
 net:pH wr Qd Hc vs G (λi=>l2.contains i&& !(l2.take j).contains i)
 aQ:RAt wr Qd qa ea sa wa Hc l2 (iR G l2) (aO G l2) qv
 upd:pD tag Qd w wr
theorem zcy.next {qa ea sa wa:Nat} {Hc:List Nat} {vs:List Value} {l2:List Nat} {qv:Value} {Qd:Nat->Nat} {j:Nat} {wr:World} (h:zcy G tag qa ea sa wa Hc vs w l2 qv Qd j wr) (n:Nat) (hn:l2[j]?=some n) (hg:n<G.length):
 zcy G tag qa ea sa wa Hc vs w l2 qv Qd (j+1) (wr.setCell ⟨Hc.getD n 0,3,none⟩ (.bool false)):=by
 refine⟨(h.net.mark n hg false).congr λi _=> ?_,h.aQ.other _ _ _ (by rw[h.net.ta n hg];omega),h.upd.trans (pD.mark h.net n hg _ _)⟩;have ht:l2.take (j+1)=l2.take j++[n]:=by rw[List.take_add_one,hn];rfl
 rw[ht,zac];by_cases e:i=n<;>simp[e]
theorem dfs_pos {f k:Nat} {l2:List Nat} (h:uC G f k []=some l2):0<l2.length:=by
 cases f with
 | zero=>rw[uC] at h;cases h
 | succ f=>
  rw[uC,zN (by simp)] at h;have:=(zdN f).2 _ _ _ h;simp at this;omega
theorem wipe_end {qa ea sa wa:Nat} {Hc l:List Nat} {E:Bool} {S:aW} {qv:Value} {vs:List Value} {seen:Nat->Bool} (h:RAt w tag qa ea sa wa Hc l E S qv) (hK:pH w tag Hc vs G seen):
 jE (((w.setCell ⟨sa,0,none⟩ (.int .u64 S.1)).setCell ⟨sa,1,none⟩ (.int .u64 S.2)).setCell ⟨ea,0,none⟩ (.bool E)).drew sa S/\(((w.setCell ⟨sa,0,none⟩ (.int .u64 S.1)).setCell ⟨sa,1,none⟩ (.int .u64 S.2)).setCell ⟨ea,0,none⟩ (.bool E)).drew.heap[ea]?=some (.cells #[.bool E] 4 (0,0))/\
  pH (((w.setCell ⟨sa,0,none⟩ (.int .u64 S.1)).setCell ⟨sa,1,none⟩ (.int .u64 S.2)).setCell ⟨ea,0,none⟩ (.bool E)).drew tag Hc vs G seen/\pD tag tag w (((w.setCell ⟨sa,0,none⟩ (.int .u64 S.1)).setCell ⟨sa,1,none⟩ (.int .u64 S.2)).setCell ⟨ea,0,none⟩ (.bool E)).drew:=by
 have nes:=h.ne.2.2.2.1;have k:∀ b,b≠sa->b≠ea->(((w.setCell ⟨sa,0,none⟩ (.int .u64 S.1)).setCell ⟨sa,1,none⟩ (.int .u64 S.2)).setCell ⟨ea,0,none⟩ (.bool E)).drew.heap[b]?=w.heap[b]?:=by
  intro b h1 h2;show (((w.setCell ⟨sa,0,none⟩ (.int .u64 S.1)).setCell ⟨sa,1,none⟩ (.int .u64 S.2)).setCell ⟨ea,0,none⟩ (.bool E)).heap[b]?=_;rw[aG _ _ _ _ h2,aG _ _ _ _ h1,aG _ _ _ _ h1]
 refine⟨?_,?_,hK.apart (λ_ _=>rfl) λb hb ht=>k b (λe=>by rw[e,h.ts] at ht;omega) (λe=>by rw[e,h.te] at ht;omega),⟨rfl,rfl,rfl,?_,λ_ _=>rfl,λb hb ht=>k b (λe=>by rw[e,h.ts] at ht;omega) (λe=>by rw[e,h.te] at ht;omega)⟩⟩
 . show (((w.setCell ⟨sa,0,none⟩ (.int .u64 S.1)).setCell ⟨sa,1,none⟩ (.int .u64 S.2)).setCell ⟨ea,0,none⟩ (.bool E)).heap[sa]?=_
   rw[aG _ _ _ _ (Ne.symm nes),aC _ sa 1 _ _ _ _ (aC w sa 0 _ _ _ _ h.hs)];rfl
 . show (((w.setCell ⟨sa,0,none⟩ (.int .u64 S.1)).setCell ⟨sa,1,none⟩ (.int .u64 S.2)).setCell ⟨ea,0,none⟩ (.bool E)).heap[ea]?=_
   rw[aC _ ea 0 _ _ _ _ (((aG _ _ _ _ nes).trans (aG _ _ _ _ nes)).trans h.he)];rfl
 show w.heap.size<=(((w.setCell ⟨sa,0,none⟩ (.int .u64 S.1)).setCell ⟨sa,1,none⟩ (.int .u64 S.2)).setCell ⟨ea,0,none⟩ (.bool E)).heap.size
 simp
theorem zdl (G:List bY) (hp:∀ i,aY G i<128) (f k:Nat) (l2:List Nat) (w:World) (tag:Nat->Nat) (Hc:List Nat) (vs:List Value) (hd:uC G f k []=some l2) (hK:pH w tag Hc vs G (λ_=>false)) (hk:k<G.length) (Yt:l2.length<=1000000):
 Calls Tryz.prog 58 #[aK (Hc.getD k 0)] w (ReachO G tag Hc vs l2 w):=by
 obtain⟨ak,jc⟩:=zE (Hc.getD k 0);rw[<-jc];have JG:=zh jc;have HK:=zh hK;have HD:=zh hd;clear jc hK hd;go_enter Tryz.func58,Tryz.ntmps58;go_upto_region 4 with (fail)
 obtain⟨QF,CW,ek,Nw⟩:=zed w tag Hc vs G _ HK.o;have Hh:=dfs_any G hp f k [] l2 _ QF _ _ _ _ Hc vs _ HD.o (ek.congr λ_ _=>rfl) CW hk Yt;have cw:=aB _ _ 0 _ _ _ CW.hw;simp only[zLa,zLb] at cw;rw[<-JG.o] at Hh;have Ai:=zh Nw;clear CW ek Nw;generalize Z1:w.heap.size+1+1=qa at*;generalize Zd:w.heap.size+1=ea at*;generalize Cl:w.heap.size=sa at*;generalize O4:qa+1=wa at*;have qi:=zh Hh;clear Z1 Zd Cl O4 Hh
 generalize (((w.alloc (.cells #[.int .u64 0,.int .u64 0] 147)).alloc (.cells #[.bool false] 4)).alloc (.cells #[.slice none 0 0] 134)).alloc (.cells #[zf4 qa ea sa wa] 207)=w1 at*;go_wp2_with (fail);refine qi.o.mono ?_;rintro e w2 ⟨rfl,Qd,qv2,MC,QL,CX⟩;have Hf:=(dfs_lt MC.wf f).1 k [] l2 HD.o hk (λx hx=>by cases hx);have QK:=zh Hf;have Hl:zcy G tag qa ea sa wa Hc vs w l2 qv2 Qd 0 w2:=⟨MC.congr λi _=>by simp,QL,Ai.o.trans CX⟩;have Hq:=zh Hl;have q0:=aB _ _ 0 _ _ _ QL.hq
 simp only[zLa,zLb] at q0;have Hb:=QL.rq;have tM:=zh Yt;clear MC QL CX Hf Hl qi Yt Ai cw;have A9:(l2.length:Int)<=9223372036854775807:=by have:=tM.o;omega
 rcases bD Hb with⟨rfl,hn⟩|⟨g,cap,rfl,Xp,hg⟩
 . have:=dfs_pos HD.o
   omega
 have xi:=zh Hb
 clear Hb;go_wp2_with (fail);go_loopw [14] (λs14 wr=>∃ (j:Nat),s14=.int .i64 j/\j<=l2.length/\zcy G tag qa ea sa wa Hc vs w l2 (.slice (some ⟨g,0,none⟩) l2.length cap) Qd j wr) (λs14 _=>l2.length-(RowKit.intOf s14).toNat)
 case atStart=>exact⟨0,rfl,by omega,Hq.o⟩
 case round=>
  obtain⟨j,rfl,hj,hS⟩:=hrel;have HS:=zh hS;clear hS;by_cases A8:j<l2.length
  . have hz:(j:Int)<(l2.length:Int):=by omega
    obtain⟨n,hn⟩:=zG l2 j A8;have NQ:=QK.o n (zM hn);obtain⟨an,ki⟩:=zE (Hc.getD n 0);have VI:wr.cell? ⟨g,j,none⟩=some (aK an):=by
     rw[ki];refine aE HS.o.aQ.rq _ _ ?_;rw[List.getElem?_map,hn];rfl
    have F7:=HS.o.net.cell n NQ;rw[<-ki] at F7;have fan:=aM _ _ 3 _ _ F7;have c3:=aB _ _ 3 _ _ _ F7;simp only[zLa,zLc,zLb] at c3;have Js:=HS.o.next n hn NQ;rw[<-ki] at Js;have QM:=zh Js;clear Js F7 hn ki;go_wp2_with (fail);go_roundw
    case rel=>exact⟨j+1,by go_num,by omega,QM.o⟩
    case measure=>(simp[zI]<;>omega)
  have hz:¬ (j:Int)<(l2.length:Int):=by omega
  have Yb:j=l2.length:=by omega
  subst Yb;have c1:=HS.o.aQ.hs.cells;obtain⟨s0,s1⟩:=c1;have e0:=aB _ _ 0 _ _ _ HS.o.aQ.he;simp only[zLa,zLb] at e0;have fs0:=aM _ _ 0 _ _ HS.o.aQ.hs;have fs1:=aM _ _ 1 _ _ HS.o.aQ.hs;have fe:=aM _ _ 0 _ _ HS.o.aQ.he;have nes:=HS.o.aQ.ne.2.2.2.1;go_wp2_with (fail);go_region_with (fail)
  all_goals
   go_wp2_with (fail);obtain⟨z1,z2,z3,z4⟩:=wipe_end HS.o.aQ HS.o.net;generalize (((wr.setCell ⟨sa,0,none⟩ (.int .u64 (aO G l2).1)).setCell ⟨sa,1,none⟩ (.int .u64 (aO G l2).2)).setCell ⟨ea,0,none⟩ (.bool (iR G l2))).drew=w9 at*;obtain⟨y0,y1⟩:=z1.cells;have y2:=aB _ _ 0 _ _ _ z2;simp only[zLa,zLb] at y2;have HZ:=zh (zAi z3 z4);clear z1 z2 z3 z4;simp[bodyPost,results,Tryz.results58,go_sem,y0,y1,y2];exact⟨rfl,Qd,HZ.o.1.congr λi _=>by simp,HS.o.upd.trans HZ.o.2⟩
