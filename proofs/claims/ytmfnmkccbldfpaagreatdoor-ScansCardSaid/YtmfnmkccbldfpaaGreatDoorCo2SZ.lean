/-
  THE LAW Scans, for every input: whatever the arguments, scangenlaw.Scans returns true and leaves its arguments alone. Condition: the package-level variables that the row lists hold what the program's text lays (the card ties them).. No condition beyond those in the statements.
-/
import Derived.Test.YtmfnmkccbldfpaaGreatDoorS42
import Derived.Test.YtmfnmkccbldfpaaGreatDoorS54
set_option linter.unusedVariables false
set_option linter.unusedSimpArgs false
set_option maxRecDepth 100000
namespace Go.Proofs.YtmfnmkccbldfpaaGreatDoor.scans
open Go.ChangeShapes Go.WideShapes Go.ChangeAt Go.RowKit Go.Lib
theorem contract (H:Type) (enc:TypeId×Value->H) (W:ω) (ku:Nat) (args:Array Value) (ds gs:List (DataW H)) (before:List MemPlace)
 (Jq:∀ (j:Nat) t v,Tryz.f3.params[j]?=some t->args[j]?=some v->Value.okWide Tryz.prog W .any ku t v)
 (hW:DataW.Whole enc Tryz.prog Tryz.f3.params.toList Rows.scansSpec.vars false W args.toList ds gs before) (hw:(DataW.weightsEach Tryz.prog (Tryz.f3.params.toList++(OpenSpec.ofChange Rows.scansSpec).bare.plain.varTypes Tryz.prog) (ds++gs)).all (· <=reachBytes)=true) (hL:laidMetH Tryz.prog Rows.scansRow.laid W):
 Calls Tryz.prog 3 args W λe W'=>∃ v,e=ρ v/\Rows.scansSpec.post enc Tryz.prog Tryz.f3 false true false false W args v W':=by
 have Sv:=hW;obtain⟨p,q,F4,hV,rfl,oq,nw⟩:=hW;have hA:DataW.TrodAll enc Tryz.prog W 0 (λ_=>true) true Tryz.f3.params.toList args.toList ds p:=F4;rw[Tryz.params3] at hA Jq;obtain⟨v0,vs0,d0,ds0,p0,q0,hargs,rfl,rfl,h0,r0⟩:=trodAll_cons hA;obtain⟨rfl,rfl,rfl⟩:=trodAll_nil r0;obtain rfl:args=#[v0]:=by cases args;simp_all
 obtain⟨ao0,ops0,cap0,rfl,QZ,JH⟩:=open_opsA (Jq 0 22 v0 rfl rfl) h0 (λn hn=>by
  have h9:=List.all_eq_true.1 hw n (DataW.weights_mem_each (j:=0) (t:=22) zK rfl n hn);simpa using h9)
 refine (scans_any ops0 W ao0 cap0 QZ JH (zix hL)).mono λe W' ⟨he,hb⟩=> ?_;subst he;refine⟨_,rfl,ziT Sv rfl ?_ rfl ?_ hb⟩
 . rw[Tryz.params3]
   intro u hu;have hm:u=22:=by simpa using hu
   rcases hm with rfl<;>exact⟨zK,by decide+kernel⟩
 obtain⟨rfl,rfl⟩:=trodVars_none hV
 exact⟨rfl,rfl,rfl⟩
theorem reads (os:Os) {H:Type} (enc:TypeId×Value->H):∃ places,DataW.whole enc Tryz.prog ((laidWorld os).forCall (λ_ _=>0) ⟨#[],#[ν],[]⟩).memory Tryz.f3.params.toList Rows.scansSpec.vars false #[(ν:Value)].toList 8=some ([.nil],[],places):=
 ⟨[],zK⟩
theorem lifted (os:Os) (started:os.Started) (H:Type) (enc:TypeId×Value->H) (F:Stop.Interp):
 ReturnsInHanded {} Tryz.checked os 3 .any ((OpenSpec.ofChange Rows.scansSpec).preRow enc Tryz.prog Tryz.f3 Rows.scansRow.domain false Rows.scansRow.laid) (((OpenSpec.ofChange Rows.scansSpec).at F).post enc Tryz.prog Tryz.f3 false true false false):=by
 obtain⟨places,hx⟩:=reads os enc;refine returnsInHanded_of_row (C:=Tryz.checked) (s:=OpenSpec.ofChange Rows.scansSpec) own' started zK Tryz.func3
  (witness_row_at (enc:=enc) (C:=Tryz.checked) false (laidWorld os) #[ν] rfl zK zK zK
   (OpenSpec.preRow_of_cond 8 hx zK (λk hk=>by cases hk) zK (zeo os _))) ?_
 intro W ku args ds gs before Jq hW _ _ hw hL _ _;exact contract H enc W ku args ds gs before Jq hW hw hL
theorem said:Rows.ScansSaid:=
 OpenClaim.holds_of_cond 3 Tryz.f3 rfl rfl rfl rfl rfl rfl rfl ⟨rfl,rfl,rfl,rfl,rfl⟩ rfl rfl rfl rfl rfl zK Tryz.func3 zK
  (of_decide_eq_true zK) (by unfold Func.isWrapper;first|(rw[zP (by decide+kernel)];kernel_rfl)|(rw[zN (by decide+kernel)];exact⟨rfl,rfl⟩))
  (λos started H enc _ F=>by rw[OpenClaim.pre_eq_preRow];exact lifted os started H enc F)
theorem plain (f:FuncId) (fn:Func) (hf:Tryz.pinned.checked.prog.funcNamed "scangen/scangenlaw.Scans" =some f) (Dk:Tryz.pinned.checked.prog.funcs[f]?=some fn):
 true=Tryz.pinned.checked.prog.looks []/\∀ (j:Nat) t,fn.params[j]?=some t->Tryz.pinned.checked.prog.wantsStandIn t=false:=by
 obtain rfl:f=3:=zO ((show Tryz.prog.funcNamed "scangen/scangenlaw.Scans" =some 3 by kernel_rfl).symm.trans hf) |>.symm
 obtain rfl:fn=Tryz.f3:=(zO (Tryz.func3.symm.trans Dk)).symm;refine⟨zK,λj t ht=> ?_⟩;rw[Tryz.params3] at ht;have hm:t=22:=by simpa using Array.mem_of_getElem? ht
 rcases hm with rfl
 . exact (show Tryz.prog.wantsStandIn 22=false by kernel_rfl)
theorem card:Rows.ScansCardSaid:=
 Claim7.holds_tied_plain_at .later [] _ _ _ _ said (λ_ h=>by cases h) zK (λ_ h=>by cases h) scans_row_tie rfl ⟨rfl,rfl⟩ zK rfl plain zK
