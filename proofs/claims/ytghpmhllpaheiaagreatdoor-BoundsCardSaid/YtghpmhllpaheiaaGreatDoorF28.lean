/- Part of a proof. No condition. -/
import Derived.Deep.DeepHandedRow
import Derived.Lib.LaidU8
import Derived.SevenTiedAt
import Derived.Test.YtghpmhllpaheiaaGreatDoorCards
import Derived.Test.YtghpmhllpaheiaaGreatDoorTie
import Derived.Test.YtghpmhllpaheiaaGreatDoorF27
set_option linter.unusedVariables false
set_option linter.unusedSimpArgs false
set_option maxRecDepth 100000
namespace Go.Proofs.YtghpmhllpaheiaaGreatDoor
open Go.ChangeShapes Go.WideShapes Go.ChangeAt Go.RowKit Go.Lib
variable {W:World}
theorem own':ownKnob Tryz.prog.godebug=none:=by kernel_rfl
theorem u8x:U8Extra Tryz.prog Tryz.lays260_ren:=⟨by kernel_rfl,by kernel_rfl,by kernel_rfl,by kernel_rfl,by kernel_rfl,by kernel_rfl,by kernel_rfl⟩
theorem wid_ty:(Tryz.prog.globals[3]?).map (·.type)=some 175:=by kernel_rfl
theorem wid_n:Tryz.prog.globalNamed "scangen/tables.widths" =some 3:=by kernel_rfl
theorem c175:Tryz.prog.cellsOf 175=6:=by kernel_rfl
theorem c21:Tryz.prog.cellsOf 21=1:=by kernel_rfl
theorem et_n:Tryz.prog.globalNamed "errors.errorType" =some 0:=by kernel_rfl
theorem et_rt:(Tryz.prog.cutTypes.find? (·.1== "internal/reflectlite.rtype")).map (·.2)=some 180:=by kernel_rfl
theorem et_sz:Tryz.prog.types.size=347:=by kernel_rfl
theorem et_row:((List.range 347).filter λt=>Tryz.prog.rowNamed t [101,114,114,111,114])=[34]:=by kernel_rfl
theorem cell_lt {w:World} {a:Addr} {v:Value} (h:w.cell? a=some v):a.block<w.heap.size:=by
 rcases zLg a.block w.heap.size with h1|h1
 . exact h1
 unfold World.cell? at h
 rw[Array.getElem?_eq_none h1] at h;simp at h
abbrev laidL:List (String×DataW Unit):=Rows.wholeRow.laid
theorem zfB (h:laidMetH Tryz.prog laidL W):
 laidMet Tryz.prog [("unicode/utf8.acceptRanges",Rows.laid_unicode_utf8_acceptRanges),("scangen/tables.widths",Rows.laid_scangen_tables_widths),("unicode/utf8.first",Rows.laid_unicode_utf8_first)] W/\handlesMet Tryz.prog [("errors.errorType",Rows.laid_errors_errorType)] W:=h
theorem acc_eq:Rows.laid_unicode_utf8_acceptRanges=acceptData:=by kernel_rfl
theorem first_eq:Rows.laid_unicode_utf8_first=firstData:=by kernel_rfl
theorem wid_eq:(Rows.laid_scangen_tables_widths:DataW Unit)=tabData .i32 bX:=by kernel_rfl
theorem wid_ul:Tryz.prog.underlying 175=some (.array 6 21):=Tryz.underlying175
theorem zbv (h:laidMetH Tryz.prog laidL W):Gl W:=by
 obtain⟨h1,h2⟩:=zfB h;have hw:Wid W:=by
  have hr:=laidMet.reads h1 (n:= "scangen/tables.widths") (d:=Rows.laid_scangen_tables_widths) (by simp);rw[wid_eq] at hr;obtain⟨g,t,cs,fuel,p,hg,DI,OU,hd⟩:=hr;obtain rfl:=zO (wid_n.symm.trans hg);obtain rfl:=zO (wid_ty.symm.trans DI);have YL:=cells_of_tab wid_ul Tryz.underlying21 c21 c175 hd;intro j u hu;rw[World.var?_cell hg OU j,<-Array.getElem?_toList,YL];exact hu
 have hs:mN<=W.heap.size:=by
  have h0:=hw 0 (.int .i32 0) rfl;exact cell_lt h0
 refine⟨utf8Tabs_of_reads Tryz.lays260 u8x ?_ ?_,hw,?_,hs⟩
 . have hr:=laidMet.reads h1 (n:= "unicode/utf8.first") (d:=Rows.laid_unicode_utf8_first) (by simp)
   rwa [first_eq] at hr
 . have hr:=laidMet.reads h1 (n:= "unicode/utf8.acceptRanges") (d:=Rows.laid_unicode_utf8_acceptRanges) (by simp)
   rwa [acc_eq] at hr
 obtain⟨name,u,ty,e1,e2,e3,e4,e5⟩:=h2 _ (List.mem_singleton.2 rfl)
 have en:name=[101,114,114,111,114]:=(zO e1).symm;subst en;obtain rfl:=zO (et_rt.symm.trans e2);have hm:ty∈(List.range 347).filter λt=>Tryz.prog.rowNamed t [101,114,114,111,114]:=List.mem_filter.2 ⟨List.mem_range.2 (by rw[<-et_sz];exact e3),e4⟩;rw[et_row] at hm;obtain rfl:=List.mem_singleton.1 hm;have hh:typeHandle Tryz.prog 34=.pointer (some ⟨4,34,none⟩):=by kernel_rfl
 rw[hh] at e5;have h9:=World.var?_cell et_n e5 0;unfold ErrT;simpa using h9
noncomputable def laidWorld (os:Os):World:=
 let w0:=World.holding Tryz.prog os ⟨#[],#[],[]⟩
 let put:=λ(cs:Array Value) (o:Obj)=>match o with
  | .cells _ t frozen=>Obj.cells cs t frozen
  | o=>o
 {w0 with heap:=(((w0.heap.modify 0 (put #[.iface 180 (.agg #[.pointer (some ⟨4,34,none⟩)])])).modify 1 (put (firstTab.map λz=>Value.int .u8 z).toArray)).modify 2 (put (((List.range 16).flatMap λi=>[Value.int .u8 (accLo i),Value.int .u8 (accHi i)]).toArray))).modify 3 (put (bX.map λz=>Value.int .i32 z).toArray)}
theorem xK (os:Os) (args:Array Value):laidMetH Tryz.prog laidL ((laidWorld os).forCall (λ_ _=>0) ⟨#[],args,[]⟩).memory:=
 laidMetH_of_parts (laidMet_of_run' 8 (by kernel_rfl) (by kernel_rfl)) (by kernel_rfl)
theorem zaL {c:Int} (h:(Lit.int .i64 c).wf=true): -9223372036854775808<=c/\c<=9223372036854775807:=by
 simp only[Lit.wf,Bool.and_eq_true,decide_eq_true_eq] at h;exact h
theorem laidOut':laidOutB Tryz.prog=true:=by kernel_rfl
theorem xP {H:Type} {enc:TypeId×Value->H} {W':World} (hb:Below W.heap.size W W') {sp:Nat->Bool}:∀ (ts:List TypeId) (vs:List Value) (ds:List (DataW H)) (ps:List MemPlace),
 (∀ t∈ts,Tryz.prog.readableRec t=true/\t<Tryz.prog.types.size)->DataW.TrodAll enc Tryz.prog W 0 (λ_=>true) true ts vs ds ps->(∀ x∈ps,x.block<W.heap.size)->(∀ x∈ps,sp x.block=true)->DataW.TrodAll enc Tryz.prog W' 0 sp true ts vs ds ps
 | [],vs,ds,ps,_,h,_,_=>by
  obtain⟨rfl,rfl,rfl⟩:=trodAll_nil h;exact rfl
 | t::ts,vs,ds,ps,hr,h,Hf,JB=>by
  obtain⟨v,vs',d,ds',p,q,rfl,rfl,rfl,h1,h2⟩:=trodAll_cons h;exact⟨p,q,WideElems.Trod_stays laidOut' (hr t List.mem_cons_self).1 (hr t List.mem_cons_self).2 h1 (λx hx=>hb.same (Hf x (List.mem_append_left _ hx))) (λx hx=>JB x (List.mem_append_left _ hx)),
   xP hb ts vs' ds' q (λu hu=>hr u (List.mem_cons_of_mem _ hu)) h2 (λx hx=>Hf x (List.mem_append_right _ hx)) (λx hx=>JB x (List.mem_append_right _ hx)),rfl⟩
theorem zbF {H:Type} {enc:TypeId×Value->H} {f:Func} {s:ChangeSpec} {apart fresh handsOn:Bool} {W':World} {args:Array Value} {ds gs:List (DataW H)} {before:List MemPlace}
 (hW:DataW.Whole enc Tryz.prog f.params.toList s.vars apart W args.toList ds gs before) (hv:s.vars=[]) (hr:∀ t∈f.params.toList,Tryz.prog.readableRec t=true/\t<Tryz.prog.types.size) (vp:f.resultTypes=#[4])
 (hs:(s.fn H (ds++gs)).results=[.lit (.bool true)]/\(s.fn H (ds++gs)).args=ds/\(s.fn H (ds++gs)).vars=[]) (hb:Below W.heap.size W W'):
 s.post enc Tryz.prog f apart fresh handsOn false W args (.bool true) W':=by
 have Hf:=hW.lt;have Ec:=hW;obtain⟨p,q,hA,hV,rfl,hz,hn⟩:=hW;rw[hv] at hV;obtain⟨rfl,rfl⟩:=trodVars_none hV;rw[List.append_nil] at Hf Ec;refine⟨ds,[],p,[],p,[],Ec,?_,?_,?_,World.keptBut_mono (λx hx=>⟨hx,.inr (.inl hx)⟩) (hb.frame (· ∈p)),λh=>by cases h⟩
 . rw[hs.1,vp]
   exact trodAll_mk1 (shut_bool Tryz.underlying4 true)
 . rw[hs.2.1]
   exact xP hb _ _ _ _ hr hA Hf (λx hx=>by simpa using Hf x hx)
 rw[hs.2.2,hv]
 exact rfl
