/- Part of a proof. No condition. -/
import Derived.Deep.Fields
import Derived.Test.YtmfnmkccbldfpaaGreatDoorS41
import Derived.Deep.DeepHandedRow
import Derived.Lib.LaidU8
import Derived.SevenTiedAt
import Derived.Test.YtmfnmkccbldfpaaGreatDoorCards
import Derived.Test.YtmfnmkccbldfpaaGreatDoorTie
import Derived.Test.YtmfnmkccbldfpaaGreatDoorS26
set_option linter.unusedVariables false
set_option linter.unusedSimpArgs false
set_option maxRecDepth 100000
namespace Go.Proofs.YtmfnmkccbldfpaaGreatDoor
open Go.ChangeShapes Go.WideShapes Go.ChangeAt Go.RowKit Go.Lib
variable {W:ω}
theorem own':ownKnob Tryz.prog.godebug=none:=by rfl
theorem u8x:U8Extra Tryz.prog Tryz.lays260_ren:=⟨zr,zr,zr,zr,zK,zK,zK⟩
theorem wid_ty:(Tryz.prog.globals[3]?).map (·.type)=some 249:=by rfl
theorem wid_n:Tryz.prog.globalNamed "scangen/tables.widths" =some 3:=by rfl
theorem c175:Tryz.prog.cellsOf 249=6:=by kernel_rfl
theorem c21:Tryz.prog.cellsOf 21=1:=by kernel_rfl
theorem et_n:Tryz.prog.globalNamed "errors.errorType" =some 2:=by rfl
theorem et_rt:(Tryz.prog.cutTypes.find? (·.1== "internal/reflectlite.rtype")).map (·.2)=some 261:=by rfl
theorem et_row:((List.range 337).filter λt=>Tryz.prog.rowNamed t [101,114,114,111,114])=[51]:=by kernel_rfl
theorem cell_lt {w:ω} {a:Addr} {v:Value} (h:w.cell? a=some v):a.block<w.t:=by
 grind [World.cell?]
abbrev laidL:List (String×DataW Unit):=Rows.scansRow.laid
theorem ziE (h:laidMetH Tryz.prog laidL W):
 laidMet Tryz.prog [("unicode/utf8.acceptRanges",Rows.laid_unicode_utf8_acceptRanges),("scangen/tables.widths",Rows.laid_scangen_tables_widths),("unicode/utf8.first",Rows.laid_unicode_utf8_first)] W/\handlesMet Tryz.prog [("errors.errorType",Rows.laid_errors_errorType)] W:=h
theorem acc_eq:Rows.laid_unicode_utf8_acceptRanges=acceptData:=by rfl
theorem first_eq:Rows.laid_unicode_utf8_first=firstData:=by kernel_rfl
theorem wid_eq:(Rows.laid_scangen_tables_widths:DataW Unit)=tabData .i32 cJ:=by rfl
theorem wid_ul:Tryz.prog.underlying 249=some (.array 6 21):=Tryz.underlying249
theorem zix (h:laidMetH Tryz.prog laidL W):Gl W:=by
 obtain⟨h1,h2⟩:=ziE h;have hw:Wid W:=by
  have hr:=laidMet.reads h1 (n:= "scangen/tables.widths") (d:=Rows.laid_scangen_tables_widths) zs;rw[wid_eq] at hr;obtain⟨g,t,cs,fuel,p,hg,DR,hvar,hd⟩:=hr;obtain rfl:=zO (wid_n.symm.trans hg);obtain rfl:=zO (wid_ty.symm.trans DR);have YA:=cells_of_tab wid_ul Tryz.underlying21 c21 c175 hd;intro j u hu;rw[World.var?_cell hg hvar j,<-Array.getElem?_toList,YA];exact hu
 have hs:jV<=W.t:=by
  have h0:=hw 0 (ξ 0) rfl;exact cell_lt h0
 refine⟨utf8Tabs_of_reads Tryz.lays260 u8x ?_ ?_,hw,?_,hs⟩
 . grind [laidMet.reads,first_eq]
 . grind [laidMet.reads,acc_eq]
 obtain⟨name,u,ty,e1,e2,e3,e4,e5⟩:=h2 _ (List.mem_singleton.2 rfl)
 have en:name=[101,114,114,111,114]:=(zO e1).symm;subst en;obtain rfl:=zO (et_rt.symm.trans e2);have hm:ty∈(List.range 337).filter λt=>Tryz.prog.rowNamed t [101,114,114,111,114]:=List.mem_filter.2 ⟨List.mem_range.2 zzCj,e4⟩;rw[et_row] at hm;obtain rfl:=List.mem_singleton.1 hm;have hh:typeHandle Tryz.prog 51=Φ (some ⟨4,51,none⟩):=zK
 rw[hh] at e5;have:=World.var?_cell et_n e5 0;assumption
noncomputable def laidWorld (os:Os):World:=
 let w0:=World.holding Tryz.prog os ⟨#[],#[],[]⟩
 let put:=λ(cs:Array Value) (o:Obj)=>match o with
  | .cells _ t frozen=>Obj.cells cs t frozen
  | o=>o
 {w0 with heap:=(((w0.heap.modify 2 (put #[Δ 261 (.agg #[Φ (some ⟨4,51,none⟩)])])).modify 0 (put (firstTab.map λz=>Value.int .u8 z).toArray)).modify 1 (put (((List.range 16).flatMap λi=>[Value.int .u8 (accLo i),Value.int .u8 (accHi i)]).toArray))).modify 3 (put (cJ.map λz=>ξ z).toArray)}
theorem zeo (os:Os) (args:Array Value):laidMetH Tryz.prog laidL ((laidWorld os).forCall (λ_ _=>0) ⟨#[],args,[]⟩).memory:=
 laidMetH_of_parts (laidMet_of_run' 8 zK zK) zK
theorem zcl {c:Int} (h:(Lit.int .i64 c).wf=true): -9223372036854775808<=c/\c<=9223372036854775807:=by
 simp only[Lit.wf,Bool.and_eq_true,decide_eq_true_eq] at h;exact h
theorem laidOut':laidOutB Tryz.prog=true:=by kernel_rfl
theorem zba {H:Type} {enc:TypeId×Value->H} {W':ω} (hb:W.u W') {sp:Nat->Bool}:∀ (ts:List TypeId) (vs:ζ) (ds:List (DataW H)) (ps:List MemPlace),
 (∀ t∈ts,Tryz.prog.readableRec t=true/\t<Tryz.prog.types.size)->DataW.TrodAll enc Tryz.prog W 0 (λ_=>true) true ts vs ds ps->(∀ x∈ps,x.block<W.t)->(∀ x∈ps,sp x.block=true)->DataW.TrodAll enc Tryz.prog W' 0 sp true ts vs ds ps
 | [],vs,ds,ps,_,h,_,_=>by
  obtain⟨rfl,rfl,rfl⟩:=trodAll_nil h;exact rfl
 | t::ts,vs,ds,ps,hr,h,Hf,JF=>by
  obtain⟨v,vs',d,ds',p,q,rfl,rfl,rfl,h1,h2⟩:=trodAll_cons h;exact⟨p,q,WideElems.Trod_stays laidOut' (hr t List.mem_cons_self).1 (hr t List.mem_cons_self).2 h1 (λx hx=>hb.same (Hf x (List.mem_append_left _ hx))) (λx hx=>JF x (List.mem_append_left _ hx)),
   zba hb ts vs' ds' q (λu hu=>hr u (List.mem_cons_of_mem _ hu)) h2 (λx hx=>Hf x (List.mem_append_right _ hx)) (λx hx=>JF x (List.mem_append_right _ hx)),rfl⟩
theorem ziT {H:Type} {enc:TypeId×Value->H} {f:Func} {s:ChangeSpec} {apart fresh handsOn:Bool} {W':ω} {args:Array Value} {ds gs:List (DataW H)} {before:List MemPlace}
 (hW:DataW.Whole enc Tryz.prog f.params.toList s.vars apart W args.toList ds gs before) (hv:s.vars=[]) (hr:∀ t∈f.params.toList,Tryz.prog.readableRec t=true/\t<Tryz.prog.types.size) (qy:f.resultTypes=#[4])
 (hs:(s.fn H (ds++gs)).results=[.lit (.bool true)]/\(s.fn H (ds++gs)).args=ds/\(s.fn H (ds++gs)).vars=[]) (hb:W.u W'):
 s.post enc Tryz.prog f apart fresh handsOn false W args (φ true) W':=by
 have Hf:=hW.lt;have Sv:=hW;obtain⟨p,q,hA,hV,rfl,hz,hn⟩:=hW;rw[hv] at hV;obtain⟨rfl,rfl⟩:=trodVars_none hV;rw[List.append_nil] at Hf Sv;refine⟨ds,[],p,[],p,[],Sv,?_,?_,?_,World.keptBut_mono (λx hx=>⟨hx,.inr (.inl hx)⟩) (hb.frame (· ∈p)),λh=>by cases h⟩
 . rw[hs.1,qy]
   exact trodAll_mk1 (shut_bool Tryz.underlying4 true)
 . grind [zba]
 rw[hs.2.2,hv]
 exact rfl
end Go.Proofs.YtmfnmkccbldfpaaGreatDoor
namespace Go.Proofs.YtmfnmkccbldfpaaGreatDoor
open Go.ChangeShapes Go.WideShapes Go.ChangeAt Go.RowKit Go.Lib
theorem zhj:Tryz.prog.cellsOf 27=5:=by kernel_rfl
theorem bytes107:Tryz.prog.bytesOf 27=48:=by kernel_rfl
theorem zhk:Tryz.prog.cellsOf 3=1:=by kernel_rfl
theorem cellsS:Tryz.prog.cellsOf 9=1:=by kernel_rfl
section
variable {H:Type} {enc:TypeId×Value->H} {w:ω} {ku:Nat} {JJ:Nat->Bool} {held:Bool} {fuel:Nat}
theorem op_read {cs:ζ} {x:DataW H×List MemPlace} (h:DataW.trod enc Tryz.prog w ku JJ held fuel 27 cs=some x):
 ∃ o:sO,cs=o.cells.toList/\o.Ok/\x.1=.agg [.lit (.int .i64 o.kind),.lit (.int .i64 o.x),.lit (.int .i64 o.a),.lit (.int .i64 o.b),.lit (.string o.s.data.toList)]:=by
 obtain⟨xs,n,_,hx,Ho,RN,hf⟩:=DataW.trod_struct Tryz.underlying27 h;rw[zhj] at Ho
 match cs,Ho with
 | [c0,c1,c2,c3,c4],_=>
  match xs,RN with
  | [x0,x1,x2,x3,x4],_=>
   have h0:DataW.trod enc Tryz.prog w ku JJ held n 3 (([c0,c1,c2,c3,c4].drop 0).take (Tryz.prog.cellsOf 3))=some x0:=hf 0 _ rfl;rw[zhk] at h0;have h1:DataW.trod enc Tryz.prog w ku JJ held n 3 (([c0,c1,c2,c3,c4].drop 1).take (Tryz.prog.cellsOf 3))=some x1:=hf 1 _ rfl;rw[zhk] at h1;have h2:DataW.trod enc Tryz.prog w ku JJ held n 3 (([c0,c1,c2,c3,c4].drop 2).take (Tryz.prog.cellsOf 3))=some x2:=hf 2 _ rfl;rw[zhk] at h2
   have h3:DataW.trod enc Tryz.prog w ku JJ held n 3 (([c0,c1,c2,c3,c4].drop 3).take (Tryz.prog.cellsOf 3))=some x3:=hf 3 _ rfl;rw[zhk] at h3;have h4:DataW.trod enc Tryz.prog w ku JJ held n 9 (([c0,c1,c2,c3,c4].drop 4).take (Tryz.prog.cellsOf 9))=some x4:=hf 4 _ rfl;rw[cellsS] at h4;obtain⟨k0,e0,f0,g0⟩:=DataW.trod_int Tryz.underlying3 (x:=x0) h0;obtain⟨k1,e1,f1,g1⟩:=DataW.trod_int Tryz.underlying3 (x:=x1) h1;obtain⟨k2,e2,f2,g2⟩:=DataW.trod_int Tryz.underlying3 (x:=x2) h2
   obtain⟨k3,e3,f3,g3⟩:=DataW.trod_int Tryz.underlying3 (x:=x3) h3;obtain⟨s,e4,f4,_⟩:=DataW.trod_string Tryz.underlying9 (x:=x4) h4;simp at e0 e1 e2 e3 e4;subst e0 e1 e2 e3 e4 f0 f1 f2 f3 f4;exact⟨⟨k0,k1,k2,k3,s⟩,rfl,⟨zcl g1,zcl g2,zcl g3⟩,zg⟩
theorem all_of {α:Type} {Q:Nat->α->Prop}:∀ n:Nat,(∀ i,i<n->∃ o,Q i o)->∃ l:List α,I l=n/\∀ (i:Nat) (o:α),l[i]?=some o->Q i o
 | 0,_=>⟨[],rfl,λi o h=>by cases h⟩
 | n+1,h=>by
  obtain⟨l,h1,h2⟩:=all_of n λi hi=>h i zo;obtain⟨o,ho⟩:=h n zo;refine⟨l++[o],by simp[h1],λi u hu=> ?_⟩
  rcases zLg i n with hi|hi
  . rw[zGl zo] at hu
    exact h2 i u hu
  have hl:i<I (l++[o]):=(List.getElem?_eq_some_iff.1 hu).1
  simp only[zLn,List.length_cons,List.length_nil] at hl;obtain rfl:i=n:=by omega
  rw[zGr zo,h1,Nat.sub_self] at hu;cases hu;exact ho
end
theorem zcu {H:Type} {P:Program} {e:TypeId} {d:DataW H}:∀ {l:List (DataW H)},d∈l->∀ n∈d.weights P e,n∈DataW.weightsAll P e l
 | u::l,h,n,hn=>by
  rw[DataW.weightsAll,zMa]
  rcases List.mem_cons.1 h with rfl|h
  . grind
  exact .inr (zcu h n hn)
theorem open_opsA {H:Type} {enc:TypeId×Value->H} {W:ω} {ku:Nat} {v:Value} {d:DataW H} {ps:List MemPlace} (hv:Value.okWide Tryz.prog W .any ku 22 v) (hd:DataW.Trod enc Tryz.prog W 0 (λ_=>true) true 22 v d ps)
 (hw:∀ n∈d.weights Tryz.prog 22,n<=reachBytes):∃ ao ops cap,v=τ ao (I ops) cap/\zc4 W ao ops/\I ops<=140737488351232:=by
 obtain⟨ao,n,cap,rfl⟩:=okWide_slice Tryz.underlying22 hv;obtain⟨fuel,hf⟩:=hd
 rcases Go.Deep.open_slice Tryz.underlying22 hf with⟨hc,_⟩|⟨a,len,xq,m,n',D,Pl,hc,hb,hl,hm,I7,hx,hi⟩
 . simp[Value.cells] at hc
   obtain⟨rfl,rfl,rfl⟩:=hc;exact⟨none,[],0,rfl,λi o h=>(by cases h),rC⟩
 simp[Value.cells] at hc
 obtain⟨rfl,rfl,rfl⟩:=hc;simp only[if_true] at I7;subst I7;have hd:d=.slice ((List.range n).map D) ((List.range (m-n)).map λj=>D (n+j)):=(Prod.mk.inj hx).1;have hwl:n*48<=reachBytes:=by
  have h1:=hw _ (by rw[hd,DataW.weights];simp only[Tryz.underlying22];exact List.mem_cons_self);rw[bytes107] at h1;simp only[List.length_map,List.length_range] at h1;omega
 have:n<=140737488351232:=by unfold reachBytes at hwl;omega
 have key:∀ i,i<n->∃ o:sO,o.s.size<=140737488351232/\o.Ok/\∀ (j:Nat) (u:Value),o.cells.toList[j]?=some u->W.cell? ((a.add (i*5)).add j)=some u:=λi XP=>by
  obtain⟨cs,YA,ht⟩:=hi i zo;obtain⟨o,ho,Hq,hD⟩:=op_read ht;rw[zhj] at YA;obtain⟨_,ym,cd⟩:=World.cells?_some YA;refine⟨o,?_,Hq,λj u hu=> ?_⟩
  . have h1:=hw (I o.s.data.toList) (by
     rw[hd,DataW.weights];simp only[Tryz.underlying22];refine List.mem_cons_of_mem _ (List.mem_append_left _ (zcu (List.mem_map.2 ⟨i,List.mem_range.2 XP,rfl⟩) _ ?_));simp_all[DataW.weights,DataW.weightsEach])
    assumption
  grind
 obtain⟨ops,h1,h2⟩:=all_of n key;refine⟨some a,ops,m,by rw[h1],λi o ho=> ?_,zo⟩;obtain⟨h3,h4,h5⟩:=h2 i o ho;have c0:=h5 0 _ rfl;have c1:=h5 1 _ rfl;have c2:=h5 2 _ rfl;have c3:=h5 3 _ rfl;have c4:=h5 4 _ rfl;obtain⟨b,off,sp⟩:=a;have JF:sp=none:=by
  cases sp with
  | none=>rfl
  | some s=>
   have:=(List.getElem?_eq_some_iff.1 ho).1;obtain⟨o0,ho0⟩:=zG ops 0 zo;have c9:=(h2 0 o0 ho0).2.2 0 _ rfl;rw[show ((⟨b,off,some s⟩:Addr).add (0*5)).add 0=⟨b,off,some s⟩ from rfl] at c9
   grind [cell_spot]
 subst JF;have:∀ o k,((b.p o):Addr).add k=(b.p (o+k)):=λo k=>by simp_all[Addr.add]
 have xt:∀ k j,(((b.p off):Addr).add k).add j=(b.p (off+(k+j))):=λk j=>by grind
 rw[xt] at c0 c1 c2 c3 c4;exact⟨b,off,rfl,cell_lt c0,h3,h4,c0,c1,c2,c3,c4⟩
