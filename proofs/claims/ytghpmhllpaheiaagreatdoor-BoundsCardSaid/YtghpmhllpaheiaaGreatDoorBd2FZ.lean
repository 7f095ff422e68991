/-
  THE LAW Bounds, for every input: whatever the arguments, scangenlaw.Bounds returns true and leaves its arguments alone. Condition: the package-level variables that the row lists hold what the program's text lays (the card ties them).. No condition beyond those in the statements.
-/
import Derived.Test.YtghpmhllpaheiaaGreatDoorF43
import Derived.Test.YtghpmhllpaheiaaGreatDoorF50
set_option linter.unusedVariables false
set_option linter.unusedSimpArgs false
set_option maxRecDepth 100000
namespace Go.Proofs.YtghpmhllpaheiaaGreatDoor.bounds
open Go.ChangeShapes Go.WideShapes Go.ChangeAt Go.RowKit Go.Lib
theorem contract (H:Type) (enc:TypeId×Value->H) (W:World) (Y6:Nat) (args:Array Value) (ds gs:List (DataW H)) (before:List MemPlace)
 (Xd:∀ (j:Nat) t v,Tryz.f10.params[j]?=some t->args[j]?=some v->Value.okWide Tryz.prog W .any Y6 t v)
 (hW:DataW.Whole enc Tryz.prog Tryz.f10.params.toList Rows.boundsSpec.vars false W args.toList ds gs before) (hw:(DataW.weightsEach Tryz.prog (Tryz.f10.params.toList++(OpenSpec.ofChange Rows.boundsSpec).bare.plain.varTypes Tryz.prog) (ds++gs)).all (· <=reachBytes)=true) (hL:laidMetH Tryz.prog Rows.boundsRow.laid W):
 Calls Tryz.prog 10 args W λe W'=>∃ v,e=.returned v/\Rows.boundsSpec.post enc Tryz.prog Tryz.f10 false true false false W args v W':=by
 have Ec:=hW;obtain⟨p,q,CT,hV,rfl,El,TK⟩:=hW;have hA:DataW.TrodAll enc Tryz.prog W 0 (λ_=>true) true Tryz.f10.params.toList args.toList ds p:=CT;rw[Tryz.params10] at hA Xd;obtain⟨v0,vs0,d0,ds0,p0,q0,FQ,rfl,rfl,h0,r0⟩:=trodAll_cons hA;obtain⟨rfl,rfl,rfl⟩:=trodAll_nil r0;obtain rfl:args=#[v0]:=by cases args;simp_all
 obtain⟨ao0,ops0,cap0,rfl,QG,tF⟩:=zde (Xd 0 65 v0 rfl rfl) h0 (λn hn=>by
  have h9:=List.all_eq_true.1 hw n (DataW.weights_mem_each (j:=0) (t:=65) (by kernel_rfl) rfl n hn);simpa using h9)
 refine (zfo ops0 W ao0 cap0 QG tF (zbv hL)).mono λe W' ⟨he,hb⟩=> ?_;subst he;refine⟨_,rfl,zbF Ec rfl ?_ rfl ?_ hb⟩
 . rw[Tryz.params10]
   intro u hu;have hm:u=65:=by simpa using hu
   rcases hm with rfl<;>exact⟨by kernel_rfl,by decide+kernel⟩
 obtain⟨rfl,rfl⟩:=trodVars_none hV
 exact⟨rfl,rfl,rfl⟩
theorem reads (os:Os) {H:Type} (enc:TypeId×Value->H):∃ places,DataW.whole enc Tryz.prog ((laidWorld os).forCall (λ_ _=>0) ⟨#[],#[.slice none 0 0],[]⟩).memory Tryz.f10.params.toList Rows.boundsSpec.vars false #[(.slice none 0 0:Value)].toList 8=some ([.nil],[],places):=
 ⟨[],by kernel_rfl⟩
theorem lifted (os:Os) (started:os.Started) (H:Type) (enc:TypeId×Value->H) (F:Stop.Interp):
 ReturnsInHanded {} Tryz.checked os 10 .any ((OpenSpec.ofChange Rows.boundsSpec).preRow enc Tryz.prog Tryz.f10 Rows.boundsRow.domain false Rows.boundsRow.laid) (((OpenSpec.ofChange Rows.boundsSpec).at F).post enc Tryz.prog Tryz.f10 false true false false):=by
 obtain⟨places,hx⟩:=reads os enc;refine returnsInHanded_of_row (C:=Tryz.checked) (s:=OpenSpec.ofChange Rows.boundsSpec) own' started (by kernel_rfl) Tryz.func10
  (witness_row_at (enc:=enc) (C:=Tryz.checked) false (laidWorld os) #[.slice none 0 0] rfl (by kernel_rfl) (by kernel_rfl) (by kernel_rfl)
   (OpenSpec.preRow_of_cond 8 hx (by kernel_rfl) (λk hk=>by cases hk) (by kernel_rfl) (xK os _))) ?_
 intro W Y6 args ds gs before Xd hW _ _ hw hL _ _;exact contract H enc W Y6 args ds gs before Xd hW hw hL
theorem said:Rows.BoundsSaid:=
 OpenClaim.holds_of_cond 10 Tryz.f10 rfl rfl rfl rfl rfl rfl rfl ⟨rfl,rfl,rfl,rfl,rfl⟩ rfl rfl rfl rfl rfl (by kernel_rfl) Tryz.func10 (by kernel_rfl)
  (of_decide_eq_true (by kernel_rfl)) (by unfold Func.isWrapper;first|(rw[zP (by decide+kernel)];kernel_rfl)|(rw[zN (by decide+kernel)];exact⟨rfl,rfl⟩))
  (λos started H enc _ F=>by rw[OpenClaim.pre_eq_preRow];exact lifted os started H enc F)
theorem plain (f:FuncId) (fn:Func) (hf:Tryz.pinned.checked.prog.funcNamed "scangen/scangenlaw.Bounds" =some f) (UA:Tryz.pinned.checked.prog.funcs[f]?=some fn):
 true=Tryz.pinned.checked.prog.looks []/\∀ (j:Nat) t,fn.params[j]?=some t->Tryz.pinned.checked.prog.wantsStandIn t=false:=by
 obtain rfl:f=10:=zO ((show Tryz.prog.funcNamed "scangen/scangenlaw.Bounds" =some 10 by kernel_rfl).symm.trans hf) |>.symm
 obtain rfl:fn=Tryz.f10:=(zO (Tryz.func10.symm.trans UA)).symm;refine⟨by kernel_rfl,λj t ht=> ?_⟩;rw[Tryz.params10] at ht;have hm:t=65:=by simpa using Array.mem_of_getElem? ht
 rcases hm with rfl
 . exact (show Tryz.prog.wantsStandIn 65=false by kernel_rfl)
theorem card:Rows.BoundsCardSaid:=
 Claim7.holds_tied_plain_at .later [] _ _ _ _ said (λ_ h=>by cases h) (by kernel_rfl) (λ_ h=>by cases h) bounds_row_tie rfl ⟨rfl,rfl⟩ (by kernel_rfl) rfl plain (by kernel_rfl)
end Go.Proofs.YtghpmhllpaheiaaGreatDoor.bounds
