/- Part of a proof. No condition. -/
import Derived.Deep.Fields
import Derived.Test.YtghpmhllpaheiaaGreatDoorF28
import Derived.Test.YtghpmhllpaheiaaGreatDoorF42
set_option linter.unusedVariables false
set_option linter.unusedSimpArgs false
set_option maxRecDepth 100000
namespace Go.Proofs.YtghpmhllpaheiaaGreatDoor
open Go.ChangeShapes Go.WideShapes Go.ChangeAt Go.RowKit Go.Lib
theorem zet:Tryz.prog.cellsOf 107=5:=by kernel_rfl
theorem bytes107:Tryz.prog.bytesOf 107=48:=by kernel_rfl
theorem zeu:Tryz.prog.cellsOf 3=1:=by kernel_rfl
theorem cellsS:Tryz.prog.cellsOf 9=1:=by kernel_rfl
section
variable {H:Type} {enc:TypeId×Value->H} {w:World} {Y6:Nat} {Kz:Nat->Bool} {held:Bool} {fuel:Nat}
theorem op_read {cs:List Value} {x:DataW H×List MemPlace} (h:DataW.trod enc Tryz.prog w Y6 Kz held fuel 107 cs=some x):
 ∃ o:pC,cs=o.cells.toList/\o.Ok/\x.1=.agg [.lit (.int .i64 o.kind),.lit (.int .i64 o.x),.lit (.int .i64 o.a),.lit (.int .i64 o.b),.lit (.string o.s.data.toList)]:=by
 obtain⟨xs,n,_,hx,Hg,rd,hf⟩:=DataW.trod_struct Tryz.underlying107 h;rw[zet] at Hg
 match cs,Hg with
 | [c0,c1,c2,c3,c4],_=>
  match xs,rd with
  | [x0,x1,x2,x3,x4],_=>
   have h0:DataW.trod enc Tryz.prog w Y6 Kz held n 3 (([c0,c1,c2,c3,c4].drop 0).take (Tryz.prog.cellsOf 3))=some x0:=hf 0 _ rfl;rw[zeu] at h0;have h1:DataW.trod enc Tryz.prog w Y6 Kz held n 3 (([c0,c1,c2,c3,c4].drop 1).take (Tryz.prog.cellsOf 3))=some x1:=hf 1 _ rfl;rw[zeu] at h1;have h2:DataW.trod enc Tryz.prog w Y6 Kz held n 3 (([c0,c1,c2,c3,c4].drop 2).take (Tryz.prog.cellsOf 3))=some x2:=hf 2 _ rfl;rw[zeu] at h2
   have h3:DataW.trod enc Tryz.prog w Y6 Kz held n 3 (([c0,c1,c2,c3,c4].drop 3).take (Tryz.prog.cellsOf 3))=some x3:=hf 3 _ rfl;rw[zeu] at h3;have h4:DataW.trod enc Tryz.prog w Y6 Kz held n 9 (([c0,c1,c2,c3,c4].drop 4).take (Tryz.prog.cellsOf 9))=some x4:=hf 4 _ rfl;rw[cellsS] at h4;obtain⟨k0,e0,f0,g0⟩:=DataW.trod_int Tryz.underlying3 (x:=x0) h0;obtain⟨k1,e1,f1,g1⟩:=DataW.trod_int Tryz.underlying3 (x:=x1) h1;obtain⟨k2,e2,f2,g2⟩:=DataW.trod_int Tryz.underlying3 (x:=x2) h2
   obtain⟨k3,e3,f3,g3⟩:=DataW.trod_int Tryz.underlying3 (x:=x3) h3;obtain⟨s,e4,f4,_⟩:=DataW.trod_string Tryz.underlying9 (x:=x4) h4;simp at e0 e1 e2 e3 e4;subst e0 e1 e2 e3 e4 f0 f1 f2 f3 f4;exact⟨⟨k0,k1,k2,k3,s⟩,rfl,⟨zaL g1,zaL g2,zaL g3⟩,by rw[hx];rfl⟩
theorem all_of {α:Type} {Q:Nat->α->Prop}:∀ n:Nat,(∀ i,i<n->∃ o,Q i o)->∃ l:List α,l.length=n/\∀ (i:Nat) (o:α),l[i]?=some o->Q i o
 | 0,_=>⟨[],rfl,λi o h=>by cases h⟩
 | n+1,h=>by
  obtain⟨l,h1,h2⟩:=all_of n λi hi=>h i (by omega);obtain⟨o,ho⟩:=h n (by omega);refine⟨l++[o],by simp[h1],λi u hu=> ?_⟩
  rcases zLg i n with hi|hi
  . rw[zGl (by omega)] at hu
    exact h2 i u hu
  have hl:i<(l++[o]).length:=(List.getElem?_eq_some_iff.1 hu).1
  simp only[zLn,List.length_cons,List.length_nil] at hl;obtain rfl:i=n:=by omega
  rw[zGr (by omega),h1,Nat.sub_self] at hu;cases hu;exact ho
end
theorem zaV {H:Type} {P:Program} {e:TypeId} {d:DataW H}:∀ {l:List (DataW H)},d∈l->∀ n∈d.weights P e,n∈DataW.weightsAll P e l
 | u::l,h,n,hn=>by
  rw[DataW.weightsAll,zMa]
  rcases List.mem_cons.1 h with rfl|h
  . exact .inl hn
  exact .inr (zaV h n hn)
theorem zde {H:Type} {enc:TypeId×Value->H} {W:World} {Y6:Nat} {v:Value} {d:DataW H} {ps:List MemPlace} (hv:Value.okWide Tryz.prog W .any Y6 65 v) (hd:DataW.Trod enc Tryz.prog W 0 (λ_=>true) true 65 v d ps)
 (hw:∀ n∈d.weights Tryz.prog 65,n<=reachBytes):∃ ao ops cap,v=.slice ao ops.length cap/\sQ W ao ops/\ops.length<=140737488351232:=by
 obtain⟨ao,n,cap,rfl⟩:=okWide_slice Tryz.underlying65 hv;obtain⟨fuel,hf⟩:=hd
 rcases Go.Deep.open_slice Tryz.underlying65 hf with⟨hc,_⟩|⟨a,len,Y7,m,n',D,Pl,hc,hb,hl,hm,Oi,hx,hi⟩
 . simp[Value.cells] at hc
   obtain⟨rfl,rfl,rfl⟩:=hc;exact⟨none,[],0,rfl,λi o h=>(by cases h),zZ _⟩
 simp[Value.cells] at hc
 obtain⟨rfl,rfl,rfl⟩:=hc;simp only[if_true] at Oi;subst Oi;have hd:d=.slice ((List.range n).map D) ((List.range (m-n)).map λj=>D (n+j)):=(Prod.mk.inj hx).1;have O6:n*48<=reachBytes:=by
  have h1:=hw _ (by rw[hd,DataW.weights];simp only[Tryz.underlying65];exact List.mem_cons_self);rw[bytes107] at h1;simp only[List.length_map,List.length_range] at h1;omega
 have Hg:n<=140737488351232:=by unfold reachBytes at O6;omega
 have key:∀ i,i<n->∃ o:pC,o.s.size<=140737488351232/\o.Ok/\∀ (j:Nat) (u:Value),o.cells.toList[j]?=some u->W.cell? ((a.add (i*5)).add j)=some u:=λi Xh=>by
  obtain⟨cs,YL,ht⟩:=hi i (by omega);obtain⟨o,ho,Hv,hD⟩:=op_read ht;rw[zet] at YL;obtain⟨_,yp,Ee⟩:=World.cells?_some YL;refine⟨o,?_,Hv,λj u hu=> ?_⟩
  . have h1:=hw o.s.data.toList.length (by
     rw[hd,DataW.weights];simp only[Tryz.underlying65];refine List.mem_cons_of_mem _ (List.mem_append_left _ (zaV (List.mem_map.2 ⟨i,List.mem_range.2 Xh,rfl⟩) _ ?_));have WZ:D i=.agg [.lit (.int .i64 o.kind),.lit (.int .i64 o.x),.lit (.int .i64 o.a),.lit (.int .i64 o.b),.lit (.string o.s.data.toList)]:=hD;rw[WZ,DataW.weights];simp only[Tryz.underlying107];simp[DataW.weightsEach,DataW.weights])
    rw[Array.length_toList] at h1;exact h1
  rw[Ee j (by
   have:=(List.getElem?_eq_some_iff.1 hu).1;simp[pC.cells] at this;exact this),ho]
  exact hu
 obtain⟨ops,h1,h2⟩:=all_of n key;refine⟨some a,ops,m,by rw[h1],λi o ho=> ?_,by rw[h1];exact Hg⟩;obtain⟨h3,h4,h5⟩:=h2 i o ho;have c0:=h5 0 _ rfl;have c1:=h5 1 _ rfl;have c2:=h5 2 _ rfl;have c3:=h5 3 _ rfl;have c4:=h5 4 _ rfl;obtain⟨b,off,sp⟩:=a;have JB:sp=none:=by
  cases sp with
  | none=>rfl
  | some s=>
   have NE:=(List.getElem?_eq_some_iff.1 ho).1;obtain⟨o0,ZW⟩:=zG ops 0 (by omega);have c9:=(h2 0 o0 ZW).2.2 0 _ rfl;rw[show ((⟨b,off,some s⟩:Addr).add (0*5)).add 0=⟨b,off,some s⟩ from rfl] at c9;have:=cell_spot c9;cases this
 subst JB;have FN:∀ o k,(⟨b,o,none⟩:Addr).add k=⟨b,o+k,none⟩:=λo k=>by unfold Addr.add;split<;>simp_all
 have YA:∀ k j,((⟨b,off,none⟩:Addr).add k).add j=⟨b,off+(k+j),none⟩:=λk j=>by rw[FN,FN,Nat.add_assoc]
 rw[YA] at c0 c1 c2 c3 c4;exact⟨b,off,rfl,cell_lt c0,h3,h4,c0,c1,c2,c3,c4⟩
