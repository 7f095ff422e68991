/- Part of a proof. No condition. -/
import Derived.Test.YtmfnmkccbldfpaaGreatDoorS20
set_option linter.unusedVariables false
set_option linter.unusedSimpArgs false
namespace Go.Proofs.YtmfnmkccbldfpaaGreatDoor
open Go.RowKit Go.Lib Tryz
structure M1St (w0:ω) (cL:List θ) (cU:List Int) (tb bc cc mb:Nat) (rc:ζ) (i:Nat) (wr:ω):Prop where
 below:w0.u wr
 ht:wr.h tb #[σ bc (I cU) cc,ν,ν,ι 0] 183
 fCuts:eP wr bc cU.toArray rc
 fMs:wr.r 176 2 (σ mb (I cU) (I cU)) (I cU) (setCells ((cU.take i).map (bP cL)++ψ (I cU-i) (0,0)))
 ne:tb≠bc/\tb≠mb/\bc≠mb/\w0.t<=tb/\w0.t<=bc/\w0.t<=mb
theorem M1St.later {w0 wr w':ω} {cL:List θ} {cU:List Int} {tb bc cc mb:Nat} {rc:ζ} {i:Nat} (h:M1St w0 cL cU tb bc cc mb rc i wr) (hb:wr.u w'):M1St w0 cL cU tb bc cc mb rc i w':=
 ⟨oB h.below hb h.below.size,(hb.block _ (aA h.ht)).trans h.ht,(hb.block _ (aA h.fCuts)).trans h.fCuts,aN h.fMs hb,h.ne⟩
theorem M1St.put {w0 wr:ω} {cL:List θ} {cU:List Int} {tb bc cc mb:Nat} {rc:ζ} {i:Nat} (h:M1St w0 cL cU tb bc cc mb rc i wr) (hi:i<I cU) (c:Int) (hc:cU[i]?=some c) (m:aZ) (hm:m=bP cL c):
 M1St w0 cL cU tb bc cc mb rc (i+1) (ς (ς wr (mb.p (i*2)) (υ m.1)) (mb.p (i*2+1)) (υ m.2)):=by
 subst hm;have hb:∀ k,k≠mb->(ς (ς wr (mb.p (i*2)) (υ (bP cL c).1)) (mb.p (i*2+1)) (υ (bP cL c).2)).e wr k:=λk hk=>by
  grind [aD]
 refine⟨⟨h.below.os,h.below.tape,h.below.output,by simpa using h.below.size,λk hk=>(hb k (by have:=h.ne;omega)).trans (h.below.block k hk)⟩,(hb _ h.ne.2.1).trans h.ht,(hb _ h.ne.2.2.1).trans h.fCuts,?_,h.ne⟩;have r1:=(h.fMs.stored (i*2) (υ (bP cL c).1)).1;have:=(r1.stored (i*2+1) (υ (bP cL c).2)).1;have:((cU.take i).map (bP cL)++ψ (I cU-i) (0,0)).set i (bP cL c)=(cU.take (i+1)).map (bP cL)++ψ (I cU-(i+1)) (0,0):=by
  rw[List.take_add_one,hc,List.map_append,show I cU-i=(I cU-(i+1))+1 by omega,List.replicate_succ,List.set_append_right _ _ zg];simp[Nat.min_eq_left (Nat.le_of_lt hi)]
 grind [zfZ]
def MakeO (T:dX) (w:ω) (e:Ending) (w':ω):Prop:=∃ tb bc cc br cr bg cg,e=ρ (ϕ #[aF tb,φ true])/\gM w'.t w' tb T bc cc br cr bg cg/\w.t<=tb/\w.u w'
structure Comp (sT:List η) (T:dX) (f:Nat) (tR:List aL) (s2:bC) (L:iT) (rU:List Int) (gO:List (List Int)) (R fb:Nat) (Hx:Int) (b2:rF):Prop where
 n1:1<=I sT
 n8:I sT<=8
 small:∀ s∈sT,s.size<=60
 parse:∀ (i:Nat) (s:η),sT[i]?=some s->∃ t,tR[i]?=some t/\iE s=.ok t
 len:I tR=I sT
 lay:iC f tR 0 kW kX=some (s2,L)
 smallS:pK s2
 pos:0<I L.cL
 max:I L.cL<=65
 ranges:∀ c∈L.cL,iF c
 cU:I (fJ L.cL)<1000000
 lr:I L.rU=I L.cL
 lf:I L.fO=I L.cL
 fok:∀ x∈L.fO,x.Ok
 make:cO L ((bG L.cL).map (bP L.cL)) 202 [(1,0)] [] []=some (rU,gO)
 wf:yV ⟨bG L.cL,rU,gO,0⟩ R
 bound:eU ⟨bG L.cL,rU,gO,0⟩ fb (I gO) 0 0 ⟨ψ (I gO) 0,ψ (I gO) 0,false⟩=some (Hx,b2)
 fin:∀ j,χ b2.far j 0<=1000000
 goesN:I gO<1000000
 tab:T=⟨bG L.cL,rU,gO,if b2.round then -1 else Hx+1⟩
