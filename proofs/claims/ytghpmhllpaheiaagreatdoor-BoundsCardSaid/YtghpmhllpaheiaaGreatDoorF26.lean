/- Part of a proof. No condition. -/
import Derived.Test.YtghpmhllpaheiaaGreatDoorF20
set_option linter.unusedVariables false
set_option linter.unusedSimpArgs false
namespace Go.Proofs.YtghpmhllpaheiaaGreatDoor
open Go.RowKit Go.Lib
structure M1St (w0:World) (cL:List (List (Int×Int))) (cU:List Int) (tb bc cc mb:Nat) (rc:List Value) (i:Nat) (wr:World):Prop where
 below:Below w0.heap.size w0 wr
 ht:wr.heap[tb]?=some (.cells #[.slice (some ⟨bc,0,none⟩) cU.length cc,.slice none 0 0,.slice none 0 0,.int .i64 0] 76 (0,0))
 fCuts:dQ wr bc cU.toArray rc
 fMs:wr.ownsRow 0 147 2 (.slice (some ⟨mb,0,none⟩) cU.length cU.length) cU.length (setCells ((cU.take i).map (bG cL)++List.replicate (cU.length-i) (0,0)))
 ne:tb≠bc/\tb≠mb/\bc≠mb/\w0.heap.size<=tb/\w0.heap.size<=bc/\w0.heap.size<=mb
theorem M1St.later {w0 wr w':World} {cL:List (List (Int×Int))} {cU:List Int} {tb bc cc mb:Nat} {rc:List Value} {i:Nat} (h:M1St w0 cL cU tb bc cc mb rc i wr) (hb:Below wr.heap.size wr w'):M1St w0 cL cU tb bc cc mb rc i w':=
 ⟨lH h.below hb h.below.size,(hb.block _ (aA h.ht)).trans h.ht,(hb.block _ (aA h.fCuts)).trans h.fCuts,aZ h.fMs hb,h.ne⟩
theorem M1St.put {w0 wr:World} {cL:List (List (Int×Int))} {cU:List Int} {tb bc cc mb:Nat} {rc:List Value} {i:Nat} (h:M1St w0 cL cU tb bc cc mb rc i wr) (hi:i<cU.length) (c:Int) (hc:cU[i]?=some c) (m:aW) (hm:m=bG cL c):
 M1St w0 cL cU tb bc cc mb rc (i+1) ((wr.setCell ⟨mb,i*2,none⟩ (.int .u64 m.1)).setCell ⟨mb,i*2+1,none⟩ (.int .u64 m.2)):=by
 subst hm;have hb:∀ k,k≠mb->((wr.setCell ⟨mb,i*2,none⟩ (.int .u64 (bG cL c).1)).setCell ⟨mb,i*2+1,none⟩ (.int .u64 (bG cL c).2)).heap[k]?=wr.heap[k]?:=λk hk=>by
  rw[aG _ _ _ _ hk,aG _ _ _ _ hk]
 refine⟨⟨h.below.os,h.below.tape,h.below.output,by simpa using h.below.size,λk hk=>(hb k (by have:=h.ne;omega)).trans (h.below.block k hk)⟩,(hb _ h.ne.2.1).trans h.ht,(hb _ h.ne.2.2.1).trans h.fCuts,?_,h.ne⟩;have r1:=(h.fMs.stored (i*2) (.int .u64 (bG cL c).1)).1;have r2:=(r1.stored (i*2+1) (.int .u64 (bG cL c).2)).1;have e:((cU.take i).map (bG cL)++List.replicate (cU.length-i) (0,0)).set i (bG cL c)=(cU.take (i+1)).map (bG cL)++List.replicate (cU.length-(i+1)) (0,0):=by
  rw[List.take_add_one,hc,List.map_append,show cU.length-i=(cU.length-(i+1))+1 by omega,List.replicate_succ,List.set_append_right _ _ (by simp;omega)];simp[Nat.min_eq_left (Nat.le_of_lt hi)]
 rw[<-e,zdr _ _ _ (by simp;omega),Nat.mul_comm 2 i];exact r2
def MakeO (T:iP) (w:World) (e:Ending) (w':World):Prop:=∃ tb bc cc br cr bg cg,e=.returned (.tuple #[aK tb,.bool true])/\iW w'.heap.size w' tb T bc cc br cr bg cg/\w.heap.size<=tb/\Below w.heap.size w w'
structure Comp (sT:List ByteArray) (T:iP) (f:Nat) (tR:List aJ) (s2:bA) (L:gK) (rU:List Int) (gO:List (List Int)) (R fb:Nat) (Hj:Int) (b2:jI):Prop where
 n1:1<=sT.length
 n8:sT.length<=8
 small:∀ s∈sT,s.size<=60
 parse:∀ (i:Nat) (s:ByteArray),sT[i]?=some s->∃ t,tR[i]?=some t/\fZ s=.ok t
 len:tR.length=sT.length
 lay:fX f tR 0 jF jG=some (s2,L)
 smallS:mS s2
 pos:0<L.cL.length
 max:L.cL.length<=65
 ranges:∀ c∈L.cL,gA c
 cU:(eJ L.cL).length<1000000
 lr:L.rU.length=L.cL.length
 lf:L.fO.length=L.cL.length
 fok:∀ x∈L.fO,x.Ok
 make:bU L ((bB L.cL).map (bG L.cL)) 202 [(1,0)] [] []=some (rU,gO)
 wf:WfT ⟨bB L.cL,rU,gO,0⟩ R
 bound:bZ ⟨bB L.cL,rU,gO,0⟩ fb gO.length 0 0 ⟨List.replicate gO.length 0,List.replicate gO.length 0,false⟩=some (Hj,b2)
 fin:∀ j,b2.far.getD j 0<=1000000
 goesN:gO.length<1000000
 tab:T=⟨bB L.cL,rU,gO,if b2.round then -1 else Hj+1⟩
