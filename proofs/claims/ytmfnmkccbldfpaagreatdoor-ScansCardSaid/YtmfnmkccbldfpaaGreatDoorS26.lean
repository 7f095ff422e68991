/- Part of a proof. No condition. -/
import Derived.Test.YtmfnmkccbldfpaaGreatDoorS24
import Derived.Test.YtmfnmkccbldfpaaGreatDoorS25
set_option linter.unusedVariables false
set_option linter.unusedSimpArgs false
namespace Go.Proofs.YtmfnmkccbldfpaaGreatDoor
open Go.RowKit Go.Lib Tryz
variable {w w':ω}
structure Gl (w:ω):Prop where
 tabs:oK w
 wid:Wid w
 err:ErrT w
 size:jV<=w.t
theorem Gl.below (h:Gl w) {B:Nat} (hb:Below B w w') (hB:jV<=B):Gl w':=
 ⟨fD h.tabs hb hB,h.wid.below hb hB,h.err.below hb zg,zT h.size hb.size⟩
theorem Gl.later (h:Gl w) (hb:w.u w'):Gl w':=h.below hb h.size
theorem Gl.pos (h:Gl w):0<w.heap.size:=by have:=h.size;grind
structure RdyS (N BT:Nat) (T:dX) (C xb:Nat) (x:Sc) (ov:Value) (w:ω) (B bs bt sb bc cc br cr bg cg:Nat) (bv:Value):Prop where
 st:ScX B w bs bt sb C x bv
 hx:w.h xb #[aF bs] 73
 xne:xb≠bs/\xb≠sb/\β bv≠some xb
 tab:gM BT w bt T bc cc br cr bg cg
 glob:jV<=BT
 low:BT<=N/\N<=sb/\N<=bs/\∀ g,β bv=some g->N<=g
 ov:∀ g,β ov=some g->g≠bs/\g≠sb/\β bv≠some g/\g<w.t
def Rdy (N BT:Nat) (T:dX) (C xb:Nat) (x:Sc) (ov:Value) (w:ω):Prop:=∃ B bs bt sb bc cc br cr bg cg bv,RdyS N BT T C xb x ov w B bs bt sb bc cc br cr bg cg bv
section
variable {N BT:Nat} {T:dX} {C xb:Nat} {x x':Sc} {ov:Value} {w w':ω} {B bs bt sb bc cc br cr bg cg:Nat} {bv bv':Value}
theorem RdyS.size (h:RdyS N BT T C xb x ov w B bs bt sb bc cc br cr bg cg bv):N<=w.t:=by
 have:=h.st.lt;have:=h.low;omega
theorem RdyS.kb (h:RdyS N BT T C xb x ov w B bs bt sb bc cc br cr bg cg bv) (hk:iI bs sb bv bv' w w'):Below N w w':=hk.below h.size h.low.2.2.1 h.low.2.1 h.low.2.2.2
theorem RdyS.next (h:RdyS N BT T C xb x ov w B bs bt sb bc cc br cr bg cg bv) (hs:ScX B w' bs bt sb C x' bv') (hk:iI bs sb bv bv' w w') {ov':Value} (ho:∀ g,β ov'=some g->g≠bs/\g≠sb/\β bv'≠some g/\g<w'.t):
 RdyS N BT T C xb x' ov' w' B bs bt sb bc cc br cr bg cg bv':=by
 have hl:=aA h.hx;have hb:=h.kb hk;have:=h.size;refine⟨hs,(hk.keep xb hl h.xne.1 h.xne.2.1 h.xne.2.2).trans h.hx,⟨h.xne.1,h.xne.2.1,λe=> ?_⟩,h.tab.below (hb.mono h.low.1),h.glob,⟨h.low.1,h.low.2.1,h.low.2.2.1,λg hg=> ?_⟩,ho⟩
 . rcases hk.new xb e with e'|e'
   . exact h.xne.2.2 e'
   omega
 rcases hk.new g hg with e'|e'
 . exact h.low.2.2.2 g e'
 omega
end
def x0 (S:lN):Sc:=⟨⟨#[]⟩,0,0,0,1,1,S⟩
theorem x0_wf {M C:Nat} {S:lN} (h:vO S<=M):xF M C (x0 S):=⟨rC,Int.le_refl _,(by decide:(1:Int)<=1/\(1:Int)<=0+1),(by decide:(1:Int)<=1/\(1:Int)<=0+1),by show (0:Int)+((0+vO S:Nat):Int)<=M;omega⟩
theorem rdy_scan {N BT B:Nat} {T:dX} {bt sb C bc cc br cr bg cg:Nat} {S:lN} {e:Ending} (h:ScanO B bt sb C S w e w') (ht:gM BT w bt T bc cc br cr bg cg) (hG:jV<=BT) (hN:BT<=N/\N<=sb) (hB:N<=w.t):
 ∃ xb,e=ρ (ϕ #[aF xb,.nilIface])/\Rdy N BT T C xb (x0 S) ν w'/\w.u w'/\xb<w'.t:=by
 obtain⟨bs,xb,rfl,Hh,AN,h1,h2,hb⟩:=h;have:=Hh.lt;refine⟨xb,rfl,⟨B,bs,bt,sb,bc,cc,br,cr,bg,cg,_,Hh,AN,⟨zo,by have:=Hh.bB;omega,λe=>by cases e⟩,ht.below (hb.mono zo),hG,⟨hN.1,hN.2,zo,λg hg=>by cases hg⟩,λg hg=>by cases hg⟩,hb,aA AN⟩
theorem zg6 (l:List Tk) (i:Nat) (t:Tk) (h:l[i]?=some t):(fV l)[i*5]?=some (ι t.rU)/\(fV l)[i*5+1]?=some (ι t.pos)/\(fV l)[i*5+2]?=some (ι t.line)/\(fV l)[i*5+3]?=some (ι t.col)/\(fV l)[i*5+4]?=some (γ t.text):=by
 induction l generalizing i with
 | nil=>simp at h
 | cons a l ih=>
  have e:fV (a::l)=ι a.rU:: ι a.pos:: ι a.line:: ι a.col:: γ a.text::fV l:=rfl;cases i with
  | zero=>grind
  | succ i=>
   rw[e,show (i+1)*5=i*5+1+1+1+1+1 by omega];simp_all
