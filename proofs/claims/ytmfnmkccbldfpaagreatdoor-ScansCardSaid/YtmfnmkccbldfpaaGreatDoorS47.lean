/- Part of a proof. No condition. -/
import Derived.Test.YtmfnmkccbldfpaaGreatDoorS23
set_option linter.unusedVariables false
set_option linter.unusedSimpArgs false
set_option maxRecDepth 100000
set_option maxHeartbeats 4000000
namespace Go.Proofs.YtmfnmkccbldfpaaGreatDoor
theorem zzAf {p:Prop} (h:p:=by
 go_wp2_with (first|(go_at_call 38;refine HT.o.mono ?_;rintro e w2 ⟨rfl,Hm⟩)|(go_at_call 39;refine (HN.o _).mono ?_;rintro e w3 ⟨rfl,rfl⟩));go_ret;exact⟨rfl,Hm⟩):p:=h
variable {w:ω} {v:Value} {e:Nat} {i k:Int}
section
open Go.RowKit Go.Lib Go.Extern.Stop Go.Stop Go.Extern
theorem isTypeOfF (v:Value) (w:ω):(Extern.ReflectliteType.typeOf #[Δ 87 v]).run Tryz.prog w=.ok (Δ 261 (.agg #[Φ (some ⟨4,87,none⟩)])) w:=by rfl
theorem zih (w:ω):(ReflectliteType.relation "AssignableTo" ReflectliteType.assignableTo #[.agg #[Φ (some ⟨4,87,none⟩)],Δ 261 (.agg #[Φ (some ⟨4,87,none⟩)])]).run Tryz.prog w=.ok (φ true) w:=by kernel_rfl
theorem valueOfP (p:Addr) (w:ω):(ReflectliteValue.unpack (Δ 87 (Φ (some p)))).run Tryz.prog w
 =.ok (.agg #[Φ (some ⟨4,87,none⟩),π w.t,υ 150]) (κ w (Ω #[Φ (some p)] 87)):=by kernel_rfl
theorem elemOfF (w:ω):(Rtype.elem? 169).run Tryz.prog w=.ok (some 87) w:=by kernel_rfl
theorem mkF (p:Addr) (w:ω):(ReflectliteValue.mk 87 p ReflectliteValue.flagAddr).run Tryz.prog w=.ok (.agg #[Φ (some ⟨4,87,none⟩),Φ (some p),υ 406]) w:=by kernel_rfl
theorem elemVF (a p:Addr) (W:ω) (ha:W.cell? a=some (Φ (some p))):
 (ReflectliteValue.method (ReflectliteValue.valueError "reflectlite.Value.Elem" 0) ReflectliteValue.elem #[.agg #[Φ (some ⟨4,169,none⟩),Φ (some a),υ 150]]).run Tryz.prog W
  =.ok (.agg #[Φ (some ⟨4,87,none⟩),Φ (some p),υ 406]) W:=by
 rw[rlm];simp_all[partsF,ReflectliteValue.elem,loadVar,elemOfF,mkF]
theorem partsPa (a:Addr) (w:ω):(ReflectliteValue.parts (.agg #[Φ (some ⟨4,87,none⟩),Φ (some a),υ 406])).run Tryz.prog w=.ok (some (87,a,406)) w:=by kernel_rfl
theorem partsP (a:Addr) (w:ω):(ReflectliteValue.parts (.agg #[Φ (some ⟨4,87,none⟩),Φ (some a),υ 150])).run Tryz.prog w=.ok (some (87,a,150)) w:=by kernel_rfl
theorem directF (w:ω):(Rtype.directlyAssignable 87 87).run Tryz.prog w=.ok true w:=by rfl
theorem setF (ta b p:Addr) (old:Value) (W:ω) (hb:W.cell? b=some (Φ (some p))) (ht:W.cell? ta=some old) (hf:W.frozen? ta=false):
 (ReflectliteValue.set #[.agg #[Φ (some ⟨4,87,none⟩),Φ (some ta),υ 406],.agg #[Φ (some ⟨4,87,none⟩),Φ (some b),υ 150]]).run Tryz.prog W
  =.ok (ϕ #[]) (W.setCell ta (Φ (some p))):=by
 rw[rL];simp only[Sem.run_bind,partsPa,partsP,Result.andThen];simp[ReflectliteValue.flagAddr,loadVar,isAgg,underlying,Tryz.underlying87,hb,Result.andThen,directF,storeVar,Value.cells,storeCells,Addr.add];rw[run_store Tryz.prog W ta _ _ zr]
 grind
theorem as_fault (p t:Addr) (old:Value) (w:ω) (hg:w.v 2 0 (Δ 261 (.agg #[Φ (some ⟨4,51,none⟩)]))) (ht0:w.cell? t=some old) (Xl:w.frozen? t=false):
 Calls Tryz.prog 62 #[Δ 87 (Φ (some p)),Δ 169 (Φ (some t))] w λev w'=>ev=ρ (φ true)/\w'=ς (κ (κ (κ (κ w (Ω #[Φ (some t)] 169)) (Ω #[Φ (some ⟨4,169,none⟩),π w.t,υ 150] 232)) (Ω #[Φ (some ⟨4,169,none⟩),π w.t,υ 150] 232)) (Ω #[Φ (some p)] 87)) t (Φ (some p)):=by
 have:= @run_callFunc_extern Tryz.prog 100 _ (λargs=>ReflectliteValue.unpack (args.getD 0 (ϕ #[]))) Tryz.func100 zr zr zr zK;have:= @run_callFunc_extern Tryz.prog 101 _ (ReflectliteValue.methodAny (ReflectliteValue.valueError "reflectlite.Value.Type" 0) (λt _ _ _=>ReflectliteType.toType t)) Tryz.func101 zr zr zr zK
 have:= @run_callFunc_extern Tryz.prog 102 _ (ReflectliteValue.method (ReflectliteValue.valueError "reflectlite.Value.IsNil" 0) ReflectliteValue.isNil) Tryz.func102 zr zr zr zK;have:= @run_callFunc_extern Tryz.prog 181 _ (ReflectliteType.abiMethod λt=>do pure (.int .u8 (<-Rtype.kind t))) Tryz.func181 zr zr zr zK;have:= @run_callFunc_extern Tryz.prog 198 _ (ReflectliteType.method ReflectliteType.elem) Tryz.func198 zr zr zr zK
 have:= @run_callFunc_extern Tryz.prog 199 _ (ReflectliteType.relation "Implements" ReflectliteType.implements_) Tryz.func199 zr zr zr zK;have:= @run_callFunc_extern Tryz.prog 87 _ ReflectliteType.typeOf Tryz.func87 zr zr zr zK;have:= @run_callFunc_extern Tryz.prog 196 _ (ReflectliteType.relation "AssignableTo" ReflectliteType.assignableTo) Tryz.func196 zr zr zr zK
 have:= @run_callFunc_extern Tryz.prog 120 _ (ReflectliteValue.method (ReflectliteValue.valueError "reflectlite.Value.Elem" 0) ReflectliteValue.elem) Tryz.func120 zr zr zr zK;have:= @run_callFunc_extern Tryz.prog 121 _ ReflectliteValue.set Tryz.func121 zr zr zr zK;have:=isTypeOfF;have:=nR;have:=zib;have:=typeF;have:=zbl;have:=zbk;have:=pU;have:=kindF;have:=kindEF;have:=elemF;have:=zck
 have:=isNilF w.z t (κ (κ w (Ω #[Φ (some t)] 169)) (Ω #[Φ (some ⟨4,169,none⟩),π w.t,υ 150] 232)) zs;have Hf:2<w.heap.size:=by grind [World.cell?]
 have:(κ (κ w (Ω #[Φ (some t)] 169)) (Ω #[Φ (some ⟨4,169,none⟩),π w.t,υ 150] 232)).v 2 0 (Δ 261 (.agg #[Φ (some ⟨4,51,none⟩)])):=by
  exact zzBP
 have:=zih;have:=valueOfP;have BG:t.block<w.t:=by
  exact zzDT
 have:=elemVF w.z t (κ (κ (κ w (Ω #[Φ (some t)] 169)) (Ω #[Φ (some ⟨4,169,none⟩),π w.t,υ 150] 232)) (Ω #[Φ (some ⟨4,169,none⟩),π w.t,υ 150] 232)) (by rw[World.cell?_alloc_lt _ _ w.z zx];simp)
 have:=setF t ⟨w.t+1+1+1,0,none⟩ p old (κ (κ (κ (κ w (Ω #[Φ (some t)] 169)) (Ω #[Φ (some ⟨4,169,none⟩),π w.t,υ 150] 232)) (Ω #[Φ (some ⟨4,169,none⟩),π w.t,υ 150] 232)) (Ω #[Φ (some p)] 87))
  (by simp_all[World.cell?_alloc_at])
  (by rw[World.cell?_alloc_lt _ _ t zx,World.cell?_alloc_lt _ _ t zx,World.cell?_alloc_lt _ _ t zx,World.cell?_alloc_lt _ _ t BG];exact ht0)
  (by rw[World.frozen?_alloc_old _ _ t zx,World.frozen?_alloc_old _ _ t zx,World.frozen?_alloc_old _ _ t zx,World.frozen?_alloc_old _ _ t (Nat.ne_of_lt BG)];exact Xl)
 go_in;go_wp2;refine zzAZ ?_;go_wp2;go_ret;simp
theorem ze5 (p:Addr) (b:Nat) (old:Value) (w:ω) (hg:w.v 2 0 (Δ 261 (.agg #[Φ (some ⟨4,51,none⟩)]))) (ht:w.h b #[old] 87):
 Calls Tryz.prog 62 #[Δ 87 (Φ (some p)),Δ 169 (π b)] w λe w'=>e=ρ (φ true)/\w'.h b #[Φ (some p)] 87/\w.g w' b:=by
 have c0:=zq 0 ht;have lb:=aA ht;refine (as_fault p b.a old w hg c0 (zF 0 ht)).mono ?_;rintro e w' ⟨rfl,rfl⟩
 have qu:=((((zBr w.t w).alloc bR (Ω #[π b] 169)).alloc zs (Ω #[Φ (some ⟨4,169,none⟩),π w.t,υ 150] 232)).alloc zx (Ω #[Φ (some ⟨4,169,none⟩),π w.t,υ 150] 232)).alloc zx (Ω #[Φ (some p)] 87);exact zzCs
end
section
open Go.RowKit Go.Lib Tryz
def zdY (w:ω) (b:Nat) (e i k:Int):Prop:=w.h b #[ι e,ι i,ι k] 89
inductive yN (w:ω):Value->Nat->Int->Int->Prop where
 | none:yN w .nilIface 0 0 0
 | num (e:Nat) (h:e≠0):yN w (Δ 86 (ι e)) e (-1) (-1)
 | fault (b:Nat) (e:Nat) (i k:Int) (h:e≠0) (hf:zdY w b e i k):yN w (Δ 87 (π b)) e i k
theorem yN.below {w':ω} (h:yN w v e i k) (hb:w.u w'):yN w' v e i k:=by
 cases h with
 | none=>exact .none
 | num e h=>exact .num e h
 | fault b e i k h hf=>exact .fault b e i k h ((hb.block b (aA hf)).trans hf)
theorem toldF_any (b:Nat) (e i k:Int) (w:ω) (hE:ErrT w) (h0:0<w.heap.size) (hF:zdY w b e i k):
 Γ 38 #[Δ 87 (π b)] w λr w'=>r=ρ (ϕ #[ι e,ι i,ι k])/\w.u w':=by
 have h0:=hE.lt;have Hk:w.u (κ w (Ω #[Φ none] 87)):=Ξ w _;have h1:=ze5 b.a w.t (Φ none) (κ w (Ω #[Φ none] 87)) (hE.below Hk h0) (bA _ _ _ rfl);clear hE;go_in;go_upto_region 5 with (go_at_call 62;refine h1.mono ?_;rintro e w2 ⟨rfl,Jh,qk⟩;have k2:=zQ 0 Jh;simp only[zLa,zLb] at k2)
 have Hm:w.u w2:=Hk.grown qk Hk.size (λg hg=>zg);have F6:zdY w2 b e i k:=(Hm.block b (aA hF)).trans hF;have:=zq 0 F6;have:=zq 1 F6;have:=zq 2 F6;clear F6;go_quiet (fail);go_wp2;exact bodyPost_ret (v:=ϕ #[ι e,ι i,ι k]) zzAY rfl ⟨rfl,aK Hm _⟩
theorem told_err (h:yN w v e i k) (hE:ErrT w) (h0:0<w.heap.size):
 Γ 38 #[v] w λr w'=>r=ρ (ϕ #[ι e,ι i,ι k])/\w.u w':=by
 cases h with
 | none=>exact zia 0 w hE h0
 | num e h=>
  have h1:=zia e w hE h0;unfold toldV at h1;rw[zN h,jE h] at h1;exact h1
 | fault b e i k h hf=>exact toldF_any b e i k w hE h0 hf
theorem uB {i2 k2:Int} (h:yN w v e i k) (hE:ErrT w) (h0:0<w.heap.size) (hs:e=0\/(i2=i/\k2=k)):
 Γ 19 #[v,ι e,ι i2,ι k2] w λr w'=>r=ρ (φ true)/\w.u w':=by
 have P8:∀ (x:Int) (w:ω),Γ 39 #[ι x] w λr w'=>r=ρ (ι x)/\w'=w:=by
  intro x w;go_in;exact zzCA
 have HT:=zh (told_err h hE h0);have HN:=zh (P8 e);cases h with
 | none=>
  go_in;exact zzAf
 | num e h=>
  obtain⟨rfl,rfl⟩:i2= -1/\k2= -1:=by omega
  have hz:¬ (e:Int)=0:=zo
  have Kf:((e:Int)==0)=false:=beq_eq_false_iff_ne.2 hz;go_in;exact zzAf
 | fault b e i k h hf=>
  obtain⟨rfl,rfl⟩:i2=i/\k2=k:=by omega
  have hz:¬ (e:Int)=0:=zo
  have Kf:((e:Int)==0)=false:=beq_eq_false_iff_ne.2 hz;go_in;exact zzAf
