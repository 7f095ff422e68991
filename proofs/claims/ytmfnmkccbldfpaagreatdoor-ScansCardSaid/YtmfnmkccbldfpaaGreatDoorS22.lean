/- Part of a proof. No condition. -/
import Derived.Lib.LazyBuf
import Derived.Test.YtmfnmkccbldfpaaGreatDoorS21
set_option linter.unusedVariables false
set_option linter.unusedSimpArgs false
set_option maxRecDepth 100000
set_option maxHeartbeats 40000000
namespace Go.Proofs.YtmfnmkccbldfpaaGreatDoor
open Go.RowKit Go.Lib Tryz
theorem zzDp {p:Prop} (h:p:=by show w.heap.size<w3.heap.size;omega):p:=h
theorem zzDM {p:Prop} (h:p:=by simp[hq]):p:=h
theorem zzBn {p:Prop} (h:p:=by
 subst he;have k1:=NO (w.heap.size+1);have k2:=NO (w.heap.size+1+1);rw[zP rfl] at k1;rw[zN zo,zP rfl] at k2;have c1:=zQ 0 k1;have c2:=zQ 0 k2
 grind):p:=h
theorem zzBh {p:Prop} (h:p:=by
 go_wp2_with fail;refine bodyPost_ret (v:=.tuple #[.int .i64 0,fN 14]) (by simp[results,fN]) rfl (HE.o (.ret 0 14) em HR.o _ HZ.o.2.1 HZ.o.2.2.1 HZ.o.2.2.2)):p:=h
theorem zzBY {p:Prop} (h:p:=by
 go_quiet (fail);go_wp2;refine bodyPost_ret (v:=.tuple #[.int .i64 n,fN 0]) (by simp[results,results187,go_sem,fN]) rfl (HO.o.2 0 HK.o _ H3.o.1 H3.o.2.1 (H3.o.2.2.drewN _))):p:=h
theorem zzBI {p:Prop} (h:p:=by
 refine (zfy (w.heap.size+1) w.heap.size (w.heap.size+1+1) pp room n w6 qn qp zo zo).mono ?_
 rintro r' u' w7 ⟨rfl,rfl,rfl⟩;simp[Leaves,settle,results,results89,go_sem,qn,qe];exact FF.o c1 c2):p:=h
theorem zzBG {p:Prop} (h:p:=by
 by_cases b1:b=w.heap.size+1
 . rw[zP b1,b1,aD _ _ _ _ zo]
   exact aB _ _ 0 _ _ _ _ K5
 rw[zN b1]
 by_cases b2:b=w.heap.size+1+1
 . rw[zP b2,b2]
   exact aB _ _ 0 _ _ _ _ ((aD _ _ _ _ zs).trans KV)
 grind [aD]):p:=h
theorem zzA8 {p:Prop} (h:p:=by
 have hb:w9.heap[pb]?=w.heap[pb]?:=j3.keep pb tL.o Vr (Ne.symm Bz);have hc:∀ o,w9.cell? ⟨pb,o,none⟩=w.cell? ⟨pb,o,none⟩:=λo=>by unfold World.cell?;rw[hb]
 exact⟨(hc _).trans a1,(hc _).trans a2,(hc _).trans a3⟩):p:=h
theorem zzAy {p:Prop} (h:p:=by
 refine (zhB (w.heap.size+1) w.heap.size (w.heap.size+1+1) pp room n _ w6 qn qe qp rn re Na c1).mono ?_
 rintro r' u' w7 ⟨rfl,rfl,Kp⟩;obtain⟨⟨t1,t2⟩,t3⟩:=yv w7 Kp (.inl c1);clear Kp;simp[Leaves,settle,results,results89,go_sem,t1,t2];exact t3):p:=h
theorem zzAx {p:Prop} (h:p:=by
 refine (zfx (w.heap.size+1) w.heap.size (w.heap.size+1+1) pp room n _ w6 qn qe qp rn re Na c1 c2).mono ?_
 rintro r' u' w7 ⟨rfl,rfl,Kp⟩;obtain⟨⟨t1,t2⟩,t3⟩:=yv w7 Kp (.inr c2);clear Kp;simp[Leaves,settle,results,results89,go_sem,t1,t2];exact t3):p:=h
theorem zzAi {p q:Prop} (k:q) (h:q->p:=by intro zz;refine leaves_cons (f:=115) (args:=#[.pointer (some ⟨w.heap.size+1,0,none⟩),.pointer (some ⟨w.heap.size,0,none⟩),.pointer (some ⟨w.heap.size+1+1,0,none⟩)]) zs zr ?_;exact zz):p:=h k
theorem zzAc {p:Prop} (h:p:=by
 have h:=Hg n.toNat x X2 w6 (by unfold dV;rw[<-hX];grind) (.inr ⟨by
  have hs:=yF room S.l S.pos S.empty n x (by rw[show eQ room S.l S.pos S.empty=yR room S from rfl,<-hX]) zo zo;rw[show eQ room S.l S.pos S.empty=yR room S from rfl,<-hX] at hs
  grind,rfl⟩) (λb hb=>Ph b zo) zo P9.1 P9.2.1 P9.2.2
 rw[tY,Int.toNat_of_nonneg zo] at h;exact h):p:=h
theorem zzAY {p:Prop} (h:p:=by simp_all[results]):p:=h
theorem zzAL {p:Prop} (h:p:=by
 rw[rep13];simp only[List.setIfInBounds_toArray,List.set_cons_zero,List.set_cons_succ,List.append_toArray,List.cons_append,List.nil_append];subst hQ;simp only[Exit.thenS];refine wpS_of_wp (wp_mono (Q:=λen a' w'=>en=.normal/\a'.defers=[]/\w'=(w.setCell ⟨na,0,none⟩ (.int .i64 0)).setCell ⟨ea,0,none⟩ (.iface 86 (.int .i64 11))) ?_ ?_)
 . go_wp2
   all_goals trivial
 rintro e a' w' ⟨rfl,hd,rfl⟩
 cases c₀;simp_all[bodyPostS,results,results115]):p:=h
variable {w b v u:ω} {sb pp bs:Nat} {ops:Array Oper} {a:Act} {Q:Exit->Act->World->Prop} {b1 b2:Value}
structure Pc where
 text:η
 n:Int
 kind:Int
structure lN where
 l:List Pc
 pos:Nat
 empty:Int
inductive Rd where
 | ret (n:Int) (e:Nat)
 | pan
def eQ (room:Nat):List Pc->Nat->Int->Rd×η×lN
 | [],pos,em=>(.ret 0 13,⟨#[]⟩,⟨[],pos,em⟩)
 | p::r,pos,em=>
  if pos<p.text.size then
   (.ret (min room (p.text.size-pos):Nat) (if p.kind=5/\pos+min room (p.text.size-pos)=p.text.size then 14 else 0),ε p.text pos (pos+min room (p.text.size-pos)),⟨p::r,pos+min room (p.text.size-pos),em⟩)
  else if em<p.n then (.ret 0 0,⟨#[]⟩,⟨p::r,pos,em+1⟩)
  else if p.kind=1\/p.kind=5 then (.ret 0 14,⟨#[]⟩,⟨p::r,pos,em⟩)
  else if p.kind=2 then (.ret (-1) 0,⟨#[]⟩,⟨p::r,pos,em⟩)
  else if p.kind=3 then (.ret ((room:Int)+1) 0,⟨#[]⟩,⟨p::r,pos,em⟩)
  else if p.kind=4 then (.pan,⟨#[]⟩,⟨p::r,pos,em⟩)
  else eQ room r 0 0
def yR (room:Nat) (S:lN):Rd×η×lN:=eQ room S.l S.pos S.empty
structure vJ (S:lN):Prop where
 text:∀ p∈S.l,p.text.size<1000000
 n:∀ p∈S.l,-1000000000<p.n/\p.n<1000000000
 kind:∀ p∈S.l,-1000000000<p.kind/\p.kind<1000000000
 len:I S.l<1000000
 pos:S.pos<1000000
 empty:0<=S.empty/\S.empty<1000000000
def fN (e:Nat):Value:=if e=0 then .nilIface else Δ 86 (ι e)
def PcAt (w:ω) (pb off:Nat) (p:Pc):Prop:=w.v pb off (γ p.text)/\w.i pb (off+1) p.n/\w.i pb (off+2) p.kind
def oP (B:Nat) (w:ω) (sb:Nat) (S:lN):Prop:=∃ ao cap reads pb off,w.h sb #[τ ao (I S.l) cap,ι S.pos,ι S.empty,ι reads] 155/\I S.l<=cap/\sb<B/\
 (S.l≠[]->ao=some ⟨pb,off,none⟩/\pb≠sb/\pb<B/\Ty w pb 47)/\∀ (i:Nat) (p:Pc),S.l[i]?=some p->PcAt w pb (off+i*3) p
theorem oP.below {B:Nat} {w':ω} {S:lN} (h:oP B w sb S) (hx:∀ b,b<B->w'.e w b):oP B w' sb S:=by
 obtain⟨ao,cap,reads,pb,off,h1,h2,h0,h3,h4⟩:=h;refine⟨ao,cap,reads,pb,off,(hx sb h0).trans h1,h2,h0,λhn=>⟨(h3 hn).1,(h3 hn).2.1,(h3 hn).2.2.1,(h3 hn).2.2.2.imp λ_ e=>(hx pb (h3 hn).2.2.1).trans e⟩,λi p hp=> ?_⟩;have qg:S.l≠[]:=λe=>by grind
 obtain⟨rfl,b,c,_⟩:=h3 qg;obtain⟨q1,q2,q3⟩:=h4 i p hp;have hc:∀ o,w'.cell? (pb.p o)=w.cell? (pb.p o):=λo=>by grind [World.cell?]
 exact⟨(hc _).trans q1,(hc _).trans q2,(hc _).trans q3⟩
theorem zgg (s:η) (a b i:Nat) (hb:b<=s.size) (hi:a+i<b):bL (ε s a b) i=bL s (a+i):=by
 exact zzDD
theorem kZ (s:η) (a b:Nat) (hb:b<=s.size):(ε s a b).size=b-a:=by simp;omega
theorem zfU (w:ω) (ty:TypeId) (b dLen dCap:Nat) (t:η) (hc:∀ j,j<dLen->(w.cell? (b.p j)).isSome=true) (hf:∀ j,w.q b j):
 (Builtin.copy_ #[40,9] ty #[σ b dLen dCap,γ t]).run prog w=.ok (ι (min dLen t.size:Nat)) (w.setCells b 0 ((fF t).take (min dLen t.size))):=by
 have hz:∀ w,(Go.sizeOf 5).run prog w=.ok 1 w:=λw=>by simp
 have:I ((fF t).take (min dLen t.size))=min dLen t.size:=by rw[List.length_take,nJ];omega
 have Hh:=run_storeCells_cells (P:=prog) b 0 ((fF t).take (min dLen t.size)) 0 w zg zg (by
  intro v hv;obtain⟨x,_,rfl⟩:=List.mem_map.1 (List.mem_of_mem_take hv);rfl)
 have hm:Nat.min t.size dLen=min dLen t.size:=Nat.min_comm _ _;simp only[Nat.add_zero] at Hh;simp[Builtin.copy_,run_underlying underlying40,Builtin.lenOf,Builtin.firstCells,hz];rw[hm,show List.map (λb:UInt8=>Value.int IntKind.u8 (b.toNat:Int)) t.data.toList=fF t from rfl,Hh];rfl
theorem zeP {P:Program} {o:Oper} {K:Act->World->Prop} {E:Prop}
 (hg:o.guard=none) (d x:Operand) (dT sT:TypeId) (hop:o.op=Op.call {callee:=Callee.builtin Builtin.copy,args:=#[d,x],argTypes:=#[dT,sT]})
 (v1 v2 v:Value) (w':ω) (hd:a.eval d=v1) (hx:a.eval x=v2) (Qv:(Builtin.copy_ #[dT,sT] o.type #[v1,v2]).run P w=.ok v w') (hK:K (a.put o.dst v) w'):
 if Region.wanted o (yielded ops a.tmps)=true then Oper.wp P o a w K Q else E:=by
 have hw:Region.wanted o (yielded ops a.tmps)=true:=by simp[Region.wanted,hg]
 rw[zP hw];unfold Oper.wp;simp[execOp,hop,resolve,invoke,builtin,hd,hx,Qv,Result.andThen];exact hK
structure vI (sb pp:Nat) (w w':ω):Prop where
 os:w'.os=w.os
 tape:w'.tape=w.tape
 output:w'.output=w.output
 size:w.heap.size<=w'.heap.size
 keep:∀ b,b<w.heap.size->b≠sb->b≠pp->w'.e w b
theorem vI.trans {a c:ω} (h:vI sb pp a b) (k:vI sb pp b c):vI sb pp a c:=
 ⟨k.os.trans h.os,k.tape.trans h.tape,k.output.trans h.output,zT h.size k.size,λx hx h1 h2=>(k.keep x (zLd hx h.size) h1 h2).trans (h.keep x hx h1 h2)⟩
theorem vI.of_below {a:ω} (h:a.u b):vI sb pp a b:=⟨h.os,h.tape,h.output,h.size,λx hx _ _=>h.block x hx⟩
theorem vI.of_grown {g:Nat} {a:ω} (h:a.g b g) (hg:g=sb\/g=pp):vI sb pp a b:=⟨h.os,h.tape,h.output,h.size,λx hx h1 h2=>h.block x hx (λe=>zg)⟩
theorem vI.drewN {a:ω} (h:vI sb pp a b) (n:Nat):vI sb pp a (b.drewN n):=⟨h.os,h.tape,h.output,h.size,h.keep⟩
abbrev zbX:η:=⟨#[110,111,32,114,101,97,100,101,114]⟩
def rdE:Rd->Ending
 | .ret n e=>ρ (ϕ #[ι n,fN e])
 | .pan=>.panicked [{v:=Δ 9 (γ zbX),recovered:=false}]
def ReadO (B sb pp room:Nat) (R:Rd×η×lN) (w:ω) (e:Ending) (w':ω):Prop:=
 e=rdE R.1/\oP B w' sb R.2.2/\(∃ arr,w'.h pp arr 5/\arr.size=room/\∀ i,i<R.2.1.size->arr[i]?=some (.int .u8 (bL R.2.1 i)))/\vI sb pp w w'
theorem zhX (room:Nat):∀ (l:List Pc) (pos:Nat) (em:Int),vJ ⟨l,pos,em⟩->vJ (eQ room l pos em).2.2
 | [],pos,em,h=>h
 | p::r,pos,em,h=>by
  have:=h.text p zs;have:=h.n p zs;have:=h.empty;have:=h.pos;rw[eQ];split
  . exact⟨h.text,h.n,h.kind,h.len,zg,h.empty⟩
  split
  . exact⟨h.text,h.n,h.kind,h.len,h.pos,zg⟩
  split
  . exact h
  split
  . exact h
  split
  . exact h
  split
  . exact h
  exact zhX room r 0 0 ⟨λq hq=>h.text q zzDM,λq hq=>h.n q zzDM,λq hq=>h.kind q zzDM,by have:=h.len;grind,(show (0:Nat)<1000000 by decide),(show (0:Int)<=0/\(0:Int)<1000000000 by decide)⟩
def ReadC (l:List Pc):Prop:=∀ (pos:Nat) (em:Int) (B:Nat) (w:ω) (sb pp room:Nat) (arr:Array Value),oP B w sb ⟨l,pos,em⟩->vJ ⟨l,pos,em⟩->B<=pp->w.h pp arr 5->arr.size=room->room<1000000->
 Γ 187 #[aF sb,σ pp room room] w (ReadO B sb pp room (eQ room l pos em) w)
theorem read_nil:ReadC []:=by
 intro pos em B w sb pp room arr hS Hq hB Xx Hv Yu;obtain⟨ao,cap,reads,pb,off,h1,h2,h0,h3,h4⟩:=hS;have c0:=zQ 0 h1;have c3:=zQ 3 h1;simp only[zLa,zLb,zLc,List.length_nil] at c0 c3;have:=zF 3 h1;have H:=Ψ h1 h2 h3 h4;have HP:=Θ Xx Hv;obtain⟨r1,js⟩:∃ r,IntKind.i64.wrap (reads+1)=r:=⟨_,rfl⟩;clear h1 h2 h3 h4 Xx Hv Hq;go_in;go_wp2
 refine bodyPost_ret (v:=ϕ #[ι 0,Δ 86 (ι 13)]) zzAY rfl ?_;have qg:pp≠sb:=zo
 refine⟨rfl,⟨ao,cap,r1,pb,off,aB _ _ 3 _ _ _ _ H.o.1,H.o.2.1,h0,λh=>absurd rfl h,λi p hp=>by simp[eQ] at hp⟩,⟨arr,(aD _ _ _ _ qg).trans HP.o.1,HP.o.2,λi hi=>absurd (show i<0 from hi) zo⟩,vI.of_grown (bQ _ sb 3 _) (.inl rfl)⟩
theorem read_cons (p:Pc) (r:List Pc) (ih:ReadC r):ReadC (p::r):=by
 intro pos em B w sb pp room arr hS Hq hB Xx Hv Yu;obtain⟨ao,cap,reads,pb,off,h1,h2,h0,h3,h4⟩:=hS;obtain⟨rfl,Vr,ii,O5⟩:=h3 zs;have WH:=zh O5;clear O5;obtain⟨q0,q1,q2⟩:=h4 0 p rfl;simp only[Nat.zero_mul,Nat.add_zero] at q0 q1 q2;have ky:=aA Xx;have l1:=aA h1;have qg:pp≠sb:=zo
 have Bz:pp≠pb:=zo
 have hokt:=Hq.text p zs;have hokp:=Hq.pos;have hoke:=Hq.empty;simp only at hokp hoke;have c0:=zq 0 h1;have c3:=zq 3 h1;have f3:=zF 3 h1;obtain⟨r1,js⟩:∃ r,IntKind.i64.wrap (reads+1)=r:=⟨_,rfl⟩;have H:=Ψ h1 h2 h3 h4;have HP:=Θ Xx Hv;have QA:=zh Hq;have lpb:pb<w.t:=by
  have:=q0;unfold World.cell? at this
  rcases zLg pb w.t with h|h
  . exact h
  omega
 have tL:=zh lpb;clear h1 h2 h3 h4 Xx Hv Hq;go_in;go_upto_region 5 with fail
 obtain⟨w1,yw⟩:=zE (κ (ς w (sb.p 3) (ι r1)) (Ω #[γ p.text,ι p.n,ι p.kind] 47));have Yg:w1.h w.t #[γ p.text,ι p.n,ι p.kind] 47:=by rw[yw];exact bA _ _ _ zs
 have Yk:w1.h sb #[τ (some (pb.p off)) (I (p::r)) cap,ι pos,ι em,ι r1] 155:=by rw[yw];exact (bS _ _ _ zzCj).trans (aB _ _ 3 _ _ _ _ H.o.1)
 have Qd:w1.h pp arr 5:=by rw[yw];exact (bS _ _ _ zzCj).trans ((aD _ _ _ _ qg).trans HP.o.1)
 have Gx:vI sb pp w w1:=by rw[yw];exact (vI.of_grown (bQ w sb 3 (ι r1)) (.inl rfl)).trans (vI.of_below (iM.alloc bR _))
 rw[<-yw];have YA:w.t≠sb/\w.t≠pp:=zo
 obtain⟨cb,Dc⟩:=zE (w.heap.size);rw[<-Dc] at Yg YA ⊢;have hcbB:w.t<=cb:=zo
 have H1:=Ψ Yg Yk Qd Gx;have d0:=zQ 0 Yg;have d1:=zQ 1 Yg;have d2:=zQ 2 Yg;have e0:=zQ 0 Yk;have e1:=zQ 1 Yk;have e2:=zQ 2 Yk;have e3:=zQ 3 Yk;simp only[zLa,zLb,zLc,List.length_cons] at d0 d1 d2 e0 e1 e2 e3;have g0:=zF 0 Yk;have g1:=zF 1 Yk;have g2:=zF 2 Yk;have g3:=zF 3 Yk
 have YD:=aA Yk;have lc1:=aA Yg;have lp1:=aA Qd;clear yw Yg Yk Qd Gx c0 c3 f3 q0 q1 q2 lpb js Dc ky l1;by_cases yp:pos<p.text.size
 . have hz:=zt pos p.text.size
   have JH:=zu pos p.text.size
   have MV:∀ j,j<room->(w1.cell? (pp.p j)).isSome=true:=λj hj=>by
    rw[bF _ _ j _ _ _ H1.o.2.2.1,Array.getElem?_eq_getElem (by rw[HP.o.2];exact hj)];rfl
   have Cg:∀ j,w1.q pp j:=λj=>bN _ _ j _ _ H1.o.2.2.1;go_quiet (fail);go_upto_region 6 with fail
   refine zzAl ?_;refine bV (λw'=>w'.v cb 0 (γ p.text)/\w'.i sb 1 pos) 9 zr ⟨d0,e1⟩ (λHc=> ?_);refine zzAC ?_;refine bY 8 (λK hK=> ?_);refine zeP zr _ _ _ _ zr _ _ _ _ zr zr (zfU _ _ pp room room (ε p.text pos p.text.size) zzCj zzCj) ?_;refine hK.out _ _ (λ_=>zAi ((World.cell?_setCells_out pp _ 0 _ cb.a (λe=>absurd e YA.2)).trans d0) ((World.cell?_setCells_out pp _ 0 _ (sb.p 1) (λe=>absurd e (Ne.symm qg))).trans e1)) ?_;clear hK K Hc;(try simp only[Act.put,lA,lB,lC])
   refine bY 9 (λK hK=> ?_);go_simp;refine hK.out _ _ (λh=>absurd rfl h) ?_;clear hK K;refine zzAF ?_;refine zzAg ?_;obtain⟨⟨arr2,k1,k2,_⟩,k4⟩:=rK pp ((fF (ε p.text pos p.text.size)).take (min room (p.text.size-pos))) 0 (w1.drewN (nq+1)) arr 5 H1.o.2.2.1;obtain⟨n,hn⟩:=zE (min room (p.text.size-pos));rw[<-hn] at k1 k4 ⊢;have CY:=kZ p.text pos p.text.size bR
   have kin:∀ i,i<n->arr2[i]?=some (.int .u8 (bL p.text (pos+i))):=λi hi=>by
    have hl:I ((fF (ε p.text pos p.text.size)).take n)=n:=by rw[List.length_take,nJ,CY];omega
    have h:=World.cell?_setCells_in pp ((fF (ε p.text pos p.text.size)).take n) 0 (w1.drewN (nq+1)) (λj hj=>by rw[Nat.zero_add];exact MV j zo) i zo;rw[Nat.zero_add,bF _ _ i _ _ _ k1] at h;rw[h,<-zgg p.text pos p.text.size i bR zo];have e:=xI (ε p.text pos p.text.size) i zo;rw[zLe (by rw[nJ];omega)] at e;rw[<-e,List.getElem_take]
   have Gy:vI sb pp w ((w1.drewN (nq+1)).setCells pp 0 ((fF (ε p.text pos p.text.size)).take n)):=H1.o.2.2.2.trans ((vI.of_below (⟨rfl,rfl,rfl,bR,λ_ _=>rfl⟩:w1.u (w1.drewN (nq+1)))).trans (vI.of_grown k4 (.inr rfl)));have x8:=(k4.block sb YD (λe=>qg zzCR)).trans H1.o.2.1;have Jh:=(k4.block cb lc1 (λe=>YA.2 zzCR)).trans H1.o.1;generalize (w1.drewN (nq+1)).setCells pp 0 ((fF (ε p.text pos p.text.size)).take n)=w2 at k1 Gy x8 Jh ⊢
   have H2:=Ψ x8 k1 k2 (zAi kin Gy);have HN:=zh hn;have t8:n<=room/\pos+n<=p.text.size:=zo
   have hw:=lM (n:=(pos:Int)+(n:Int));have e1:=zq 1 x8;have d0:=zq 0 Jh;have d2:=zq 2 Jh;have g1:=zF 1 x8;have hR:∀ x,(p.kind=5/\pos+n=p.text.size->x=14)->(¬ (p.kind=5/\pos+n=p.text.size)->x=0)->eQ room (p::r) pos em=(.ret n x,ε p.text pos (pos+n),⟨p::r,pos+n,em⟩):=λx h1 h2=>by
    rw[eQ,zP yp,<-HN.o];by_cases h:p.kind=5/\pos+n=p.text.size
    . rw[zP h,h1 h]
    rw[zN h,h2 h]
   have hO:∀ x,eQ room (p::r) pos em=(.ret n x,ε p.text pos (pos+n),⟨p::r,pos+n,em⟩)->∀ w9,w9.h sb #[τ (some (pb.p off)) (I (p::r)) cap,ι ((pos:Int)+n),ι em,ι r1] 155->w9.h pp arr2 5->vI sb pp w w9->
    ReadO B sb pp room (eQ room (p::r) pos em) w (ρ (ϕ #[ι n,fN x])) w9:=λx hx w9 j1 j2 j3=>by
    rw[hx];refine⟨rfl,⟨some (pb.p off),cap,r1,pb,off,by rw[j1];simp,H.o.2.1,h0,λ_=>⟨rfl,Vr,ii,WH.o.imp λ_ e=>(j3.keep pb tL.o Vr (Ne.symm Bz)).trans e⟩,λi q hq=> ?_⟩,⟨arr2,j2,H2.o.2.2.1.trans HP.o.2,λi hi=> ?_⟩,j3⟩
    . obtain⟨a1,a2,a3⟩:=H.o.2.2.2 i q hq
      exact zzA8
    have Jk:i<n:=by
     have:=kZ p.text pos (pos+n) t8.2;rw[this] at hi;omega
    rw[H2.o.2.2.2.1 i Jk,zgg p.text pos (pos+n) i t8.2 zo]
   have HO:=Θ hR hO;clear hR hO k1 k2 k4 kin Gy x8 Jh hn CY MV Cg e0 e2 e3 g0 g2 g3 d1;go_upto_region 8 with fail
   have tk:=aB w2 sb 1 (ι ((pos:Int)+(n:Int))) _ _ _ H2.o.1;have yo:=(aD w2 (sb.p 1) (ι ((pos:Int)+(n:Int))) pp qg).trans H2.o.2.1;have Gz:vI sb pp w (ς w2 (sb.p 1) (ι ((pos:Int)+(n:Int)))):=H2.o.2.2.2.2.trans (vI.of_grown (bQ _ sb 1 _) (.inl rfl));have M5:cb≠sb:=YA.1;have d0:(ς w2 (sb.p 1) (ι ((pos:Int)+(n:Int)))).v cb 0 (γ p.text):=by rw[World.cell?_of_block (aD w2 (sb.p 1) _ cb M5)];exact d0
   have d2:(ς w2 (sb.p 1) (ι ((pos:Int)+(n:Int)))).i cb 2 p.kind:=by rw[World.cell?_of_block (aD w2 (sb.p 1) _ cb M5)];exact d2
   generalize w2.setCell (sb.p 1) (ι ((pos:Int)+(n:Int)))=w3 at tk yo Gz d0 d2 ⊢;have e1:=zQ 1 tk;simp only[List.setIfInBounds_toArray,List.set_cons_zero,List.set_cons_succ,zLa,zLb,zLc] at e1;have H3:=Λ tk yo Gz;clear tk yo Gz g1 hw;by_cases hk:p.kind=5
   . by_cases Y4:pos+n=p.text.size
     . have hze:(pos:Int)+(n:Int)=(p.text.size:Int):=zo
       have hzb:(((pos:Int)+(n:Int))==(p.text.size:Int))=true:=zx
       have HX:=HO.o.1 14 (λ_=>rfl) (λh=>absurd ⟨hk,Y4⟩ h);have HK:=zh HX;have Dt:(p.kind==5)=true:=by simp[hk]
       clear Y4 HX hk hze;go_quiet (fail);go_wp2;refine bodyPost_ret (v:=ϕ #[ι n,fN 14]) (by simp[results,results187,go_sem,fN]) rfl (HO.o.2 14 HK.o _ H3.o.1 H3.o.2.1 (H3.o.2.2.drewN _))
     have hzb:(((pos:Int)+(n:Int))==(p.text.size:Int))=false:=zx
     have HX:=HO.o.1 0 (λh=>absurd h.2 Y4) (λ_=>rfl);have HK:=zh HX;have Dt:(p.kind==5)=true:=by simp[hk]
     clear Y4 HX hk;exact zzBY
   have HX:=HO.o.1 0 (λh=>absurd h.1 hk) (λ_=>rfl)
   have HK:=zh HX;have Dt:(p.kind==5)=false:=by simp[hk]
   clear HX hk;exact zzBY
 have hz:=zn pos p.text.size
 have hE:∀ (X:Rd) (em':Int),eQ room (p::r) pos em=(X,⟨#[]⟩,⟨p::r,pos,em'⟩)->∀ w9,w9.h sb #[τ (some (pb.p off)) (I (p::r)) cap,ι pos,ι em',ι r1] 155->w9.h pp arr 5->vI sb pp w w9->
  ReadO B sb pp room (eQ room (p::r) pos em) w (rdE X) w9:=λX em' hx w9 j1 j2 j3=>by
  rw[hx];refine⟨rfl,⟨some (pb.p off),cap,r1,pb,off,j1,H.o.2.1,h0,λ_=>⟨rfl,Vr,ii,WH.o.imp λ_ e=>(j3.keep pb tL.o Vr (Ne.symm Bz)).trans e⟩,λi q hq=> ?_⟩,⟨arr,j2,HP.o.2,λi hi=>absurd (show i<0 from hi) zo⟩,j3⟩;obtain⟨a1,a2,a3⟩:=H.o.2.2.2 i q hq;exact zzA8
 have HE:=zh hE;clear hE;go_quiet (fail);have JT:(w1.drewN nq).h cb #[γ p.text,ι p.n,ι p.kind] 47/\(w1.drewN nq).h sb #[τ (some (pb.p off)) (I (p::r)) cap,ι pos,ι em,ι r1] 155/\(w1.drewN nq).h pp arr 5/\vI sb pp w (w1.drewN nq):=⟨H1.o.1,H1.o.2.1,H1.o.2.2.1,H1.o.2.2.2.drewN nq⟩;generalize w1.drewN nq=wq at JT ⊢;clear d0 d1 d2 e0 e1 e2 e3 g0 g1 g2 g3 YD lc1 lp1;have d0:=zQ 0 JT.1
 have d1:=zQ 1 JT.1;have d2:=zQ 2 JT.1;have e0:=zQ 0 JT.2.1;have e1:=zQ 1 JT.2.1;have e2:=zQ 2 JT.2.1;have e3:=zQ 3 JT.2.1;simp only[zLa,zLb,zLc,List.length_cons] at d0 d1 d2 e0 e1 e2 e3;have g0:=zF 0 JT.2.1;have g1:=zF 1 JT.2.1;have g2:=zF 2 JT.2.1;have g3:=zF 3 JT.2.1;have YD:=aA JT.2.1;have lc1:=aA JT.1
 have lp1:=aA JT.2.2.1;have HQ:=zh JT;clear JT;by_cases Bn:em<p.n
 . have hR:eQ room (p::r) pos em=(.ret 0 0,⟨#[]⟩,⟨p::r,pos,em+1⟩):=by rw[eQ,zN yp,zP Bn]
   have HR:=zh hR;have hw:=lM (n:=em+1);clear hR;go_upto_region 11 with fail
   go_quiet (fail);have Xd:(wq.drewN nq).h cb #[γ p.text,ι p.n,ι p.kind] 47/\(wq.drewN nq).h sb #[τ (some (pb.p off)) (I (p::r)) cap,ι pos,ι em,ι r1] 155/\(wq.drewN nq).h pp arr 5/\vI sb pp w (wq.drewN nq):=⟨HQ.o.1,HQ.o.2.1,HQ.o.2.2.1,HQ.o.2.2.2.drewN nq⟩;generalize wq.drewN nq=wz at Xd ⊢;clear d0 d1 d2 e0 e1 e2 e3 g0 g1 g2 g3 YD lc1 lp1;have d0:=zQ 0 Xd.1;have d1:=zQ 1 Xd.1
   have d2:=zQ 2 Xd.1;have e0:=zQ 0 Xd.2.1;have e1:=zQ 1 Xd.2.1;have e2:=zQ 2 Xd.2.1;have e3:=zQ 3 Xd.2.1;simp only[zLa,zLb,zLc,List.length_cons] at d0 d1 d2 e0 e1 e2 e3;have g0:=zF 0 Xd.2.1;have g1:=zF 1 Xd.2.1;have g2:=zF 2 Xd.2.1;have g3:=zF 3 Xd.2.1;have YD:=aA Xd.2.1;have lc1:=aA Xd.1;have lp1:=aA Xd.2.2.1;have HZ:=zh Xd
   clear Xd;go_wp2;refine bodyPost_ret (v:=ϕ #[ι 0,.nilIface]) zzAY rfl (HE.o (.ret 0 0) (em+1) HR.o _ (aB _ sb 2 _ _ _ _ HZ.o.2.1) ((aD _ _ _ _ qg).trans HZ.o.2.2.1) (HZ.o.2.2.2.trans (vI.of_grown (bQ _ sb 2 _) (.inl rfl))))
 go_upto_region 11 with fail
 go_quiet (fail);have Xd:(wq.drewN nq).h cb #[γ p.text,ι p.n,ι p.kind] 47/\(wq.drewN nq).h sb #[τ (some (pb.p off)) (I (p::r)) cap,ι pos,ι em,ι r1] 155/\(wq.drewN nq).h pp arr 5/\vI sb pp w (wq.drewN nq):=⟨HQ.o.1,HQ.o.2.1,HQ.o.2.2.1,HQ.o.2.2.2.drewN nq⟩;generalize wq.drewN nq=wz at Xd ⊢;clear d0 d1 d2 e0 e1 e2 e3 g0 g1 g2 g3 YD lc1 lp1;have d0:=zQ 0 Xd.1;have d1:=zQ 1 Xd.1
 have d2:=zQ 2 Xd.1;have e0:=zQ 0 Xd.2.1;have e1:=zQ 1 Xd.2.1;have e2:=zQ 2 Xd.2.1;have e3:=zQ 3 Xd.2.1;simp only[zLa,zLb,zLc,List.length_cons] at d0 d1 d2 e0 e1 e2 e3;have g0:=zF 0 Xd.2.1;have g1:=zF 1 Xd.2.1;have g2:=zF 2 Xd.2.1;have g3:=zF 3 Xd.2.1;have YD:=aA Xd.2.1;have lc1:=aA Xd.1;have lp1:=aA Xd.2.2.1;have HZ:=zh Xd
 clear Xd;go_upto_region 14 with fail
 by_cases Yr:p.kind=1
 . have pf:p.kind=1\/p.kind=5:=.inl Yr
   have hR:eQ room (p::r) pos em=(.ret 0 14,⟨#[]⟩,⟨p::r,pos,em⟩):=by rw[eQ,zN yp,zN Bn,zP pf]
   have HR:=zh hR;have b1:(p.kind==1)=true:=by simp[Yr]
   clear hR Yr pf;exact zzBh
 have b1:(p.kind==1)=false:=by simp[Yr]
 by_cases pf:p.kind=5
 . have Oc:p.kind=1\/p.kind=5:=.inr pf
   have hR:eQ room (p::r) pos em=(.ret 0 14,⟨#[]⟩,⟨p::r,pos,em⟩):=by rw[eQ,zN yp,zN Bn,zP Oc]
   have HR:=zh hR;have b5:(p.kind==5)=true:=by simp[pf]
   clear hR Yr pf Oc;exact zzBh
 have b5:(p.kind==5)=false:=by simp[pf]
 have ph:¬ (p.kind=1\/p.kind=5):=λh=>h.elim Yr pf;by_cases QF:p.kind=2
 . have hR:eQ room (p::r) pos em=(.ret (-1) 0,⟨#[]⟩,⟨p::r,pos,em⟩):=by rw[eQ,zN yp,zN Bn,zN ph,zP QF]
   have HR:=zh hR;have b2:(p.kind==2)=true:=by simp[QF]
   clear hR Yr pf ph QF;go_wp2_with fail;refine bodyPost_ret (v:=ϕ #[ι (-1),.nilIface]) (by simp[results]) rfl (HE.o (.ret (-1) 0) em HR.o _ HZ.o.2.1 HZ.o.2.2.1 HZ.o.2.2.2)
 have b2:(p.kind==2)=false:=by simp[QF]
 by_cases Pg:p.kind=3
 . have hR:eQ room (p::r) pos em=(.ret ((room:Int)+1) 0,⟨#[]⟩,⟨p::r,pos,em⟩):=by rw[eQ,zN yp,zN Bn,zN ph,zN QF,zP Pg]
   have HR:=zh hR;have b3:(p.kind==3)=true:=by simp[Pg]
   have hw:=mF room;clear hR Yr pf ph QF Pg;go_wp2_with fail;refine bodyPost_ret (v:=ϕ #[ι ((room:Int)+1),.nilIface]) (by simp[results,results187,go_sem,fN]) rfl (HE.o (.ret ((room:Int)+1) 0) em HR.o _ HZ.o.2.1 HZ.o.2.2.1 HZ.o.2.2.2)
 have b3:(p.kind==3)=false:=by simp[Pg]
 by_cases U5:p.kind=4
 . have hR:eQ room (p::r) pos em=(.pan,⟨#[]⟩,⟨p::r,pos,em⟩):=by rw[eQ,zN yp,zN Bn,zN ph,zN QF,zN Pg,zP U5]
   have HR:=zh hR;have b4:(p.kind==4)=true:=by simp[U5]
   clear hR Yr pf ph QF Pg U5;go_wp2_with fail;have hx:=HE.o .pan em HR.o _ HZ.o.2.1 HZ.o.2.2.1 HZ.o.2.2.2;simp only[rdE] at hx;simpa[bodyPost] using hx
 have b4:(p.kind==4)=false:=by simp[U5]
 have hR:eQ room (p::r) pos em=eQ room r 0 0:=by rw[eQ,zN yp,zN Bn,zN ph,zN QF,zN Pg,zN U5]
 have HR:=zh hR;clear hR Yr pf ph QF Pg U5;obtain⟨pa,Y5,Ng⟩:∃ pa:Addr,(if cap=1 then some ((pb.p off):Addr) else some (pb.p (off+3)))=some pa/\(pa=(pb.p (off+3))\/(cap=1/\pa=(pb.p off))):=by
  by_cases ym:cap=1
  . exact⟨_,by rw[zP ym],.inr ⟨ym,rfl⟩⟩
  exact⟨_,by rw[zN ym],.inl rfl⟩
 have Eb:=zh Ng;have hcapz:(I r:Int)+1<=(cap:Int):=by have:=H.o.2.1;simp at this;omega
 have Ar:(1:Int)<=(cap:Int):=zo
 clear Ng;go_upto_region 25 with fail
 have Tc:=aB _ sb 2 (ι 0) _ _ _ (aB _ sb 1 (ι 0) _ _ _ (aB wz sb 0 (τ (some pa) (I r) (cap-1)) _ _ _ HZ.o.2.1));have BA:(ς (ς (ς wz sb.a (τ (some pa) (I r) (cap-1))) (sb.p 1) (ι 0)) (sb.p 2) (ι 0)).h pp arr 5:=by
  rw[aD _ _ _ _ qg,aD _ _ _ _ qg,aD _ _ _ _ qg];exact HZ.o.2.2.1
 have yz:vI sb pp w (ς (ς (ς wz sb.a (τ (some pa) (I r) (cap-1))) (sb.p 1) (ι 0)) (sb.p 2) (ι 0)):=
  ((HZ.o.2.2.2.trans (vI.of_grown (bQ _ sb 0 _) (.inl rfl))).trans (vI.of_grown (bQ _ sb 1 _) (.inl rfl))).trans (vI.of_grown (bQ _ sb 2 _) (.inl rfl))
 generalize (ς (ς (ς wz sb.a (τ (some pa) (I r) (cap-1))) (sb.p 1) (ι 0)) (sb.p 2) (ι 0))=w4 at Tc BA yz ⊢;simp only[List.setIfInBounds_toArray,List.set_cons_zero,List.set_cons_succ] at Tc;obtain⟨r2,Po⟩:∃ x,IntKind.i64.wrap (r1-1)=x:=⟨_,rfl⟩;have e3:=zq 3 Tc;have g3:=zF 3 Tc;have H4:=Λ Tc BA yz;clear Tc BA yz
 go_upto_region 26 with fail
 have Ct:=aB w4 sb 3 (ι r2) _ _ _ H4.o.1;have Ta:=(aD w4 (sb.p 3) (ι r2) pp qg).trans H4.o.2.1;have UQ:vI sb pp w (ς w4 (sb.p 3) (ι r2)):=H4.o.2.2.trans (vI.of_grown (bQ _ sb 3 _) (.inl rfl));generalize w4.setCell (sb.p 3) (ι r2)=w5 at Ct Ta UQ ⊢;simp only[List.setIfInBounds_toArray,List.set_cons_zero,List.set_cons_succ] at Ct;have po:oP B w5 sb ⟨r,0,0⟩:=by
  refine⟨some pa,cap-1,r2,pb,off+3,Ct,zg,h0,λhrne=>⟨?_,Vr,ii,WH.o.imp λ_ e=>(UQ.keep pb tL.o Vr (Ne.symm Bz)).trans e⟩,λi q hq=> ?_⟩
  . rcases Eb.o with e|⟨e1,e2⟩
    . rw[e]
    have:0<I r:=List.length_pos_iff.2 hrne
    omega
  obtain⟨a1,a2,a3⟩:=H.o.2.2.2 (i+1) q hq
  have hb:w5.e w pb:=UQ.keep pb tL.o Vr (Ne.symm Bz);have hc:∀ o,w5.cell? (pb.p o)=w.cell? (pb.p o):=λo=>by unfold World.cell?;rw[hb]
  rw[show off+3+i*3=off+(i+1)*3 by omega];exact⟨(hc _).trans a1,(hc _).trans a2,(hc _).trans a3⟩
 have T3:vJ ⟨r,0,0⟩:=⟨λq hq=>QA.o.text q zzDM,λq hq=>QA.o.n q zzDM,λq hq=>QA.o.kind q zzDM,by have:=QA.o.len;grind,(show (0:Nat)<1000000 by decide),(show (0:Int)<=0/\(0:Int)<1000000000 by decide)⟩;have SF:=ih 0 0 B w5 sb pp room arr po T3 hB Ta HP.o.2 Yu;rw[<-HR.o] at SF;have HCH:=zh UQ;clear Ct Ta UQ po T3;obtain⟨X,hX⟩:=zE (eQ room (p::r) pos em);rw[<-hX] at SF
 have Hg:∀ e w6,ReadO B sb pp room X w5 e w6->ReadO B sb pp room (eQ room (p::r) pos em) w e w6:=λe w6 h=>by rw[<-hX];exact⟨h.1,h.2.1,h.2.2.1,HCH.o.trans h.2.2.2⟩
 clear hX;have Ad:=zh Hg;clear Hg;obtain⟨X1,X2,X3⟩:=X;have HIH:=zh SF;clear SF;cases X1 with
 | ret ne x=>
  obtain⟨ev,tY⟩:=zE (fN x);have Ab:=zh tY;clear tY;go_wp2_with (first|(go_at_call 187;refine HIH.o.mono ?_;intro e w6 ho;obtain⟨rfl,jr⟩:=ho;have HX:=zh jr;clear jr;simp only[rdE];rw[<-Ab.o]));refine bodyPost_ret (v:=ϕ #[ι ne,ev]) (by simp[results,results187,go_sem]) rfl (Ad.o _ _ ⟨(by rw[Ab.o];rfl:Ending.returned (ϕ #[ι ne,ev])=rdE (.ret ne x)),HX.o⟩)
 | pan=>
  go_wp2_with (first|(go_at_call 187;refine HIH.o.mono ?_;intro e w6 ho;obtain⟨rfl,jr⟩:=ho;have HX:=zh jr;clear jr;simp only[rdE]));have hx:=Ad.o (rdE .pan) _ ⟨rfl,HX.o⟩;simp only[rdE] at hx;simpa[bodyPost] using hx
theorem zhY:∀ l,ReadC l
 | []=>read_nil
 | p::r=>read_cons p r (zhY r)
theorem rep13:Array.replicate 13 undef=#[undef,undef,undef,undef,undef,undef,undef,undef,undef,undef,undef,undef,undef]:=rfl
theorem zfy (na pa ea pp room:Nat) (n:Int) (w:ω) (hn:w.i na 0 n) (hp:w.v pa 0 (σ pp room room)) (h0:0<=n) (h1:n<=(room:Int)):
 CallsD prog 115 #[π na,π pa,π ea] .returning w λe u' w'=>e=ρ (ϕ #[])/\u'=.returning/\w'=w:=by
 have h0':¬ n<0:=zo
 have h1':¬ (room:Int)<n:=zo
 refine callsD_of_wpS func115 rfl λc₀ cs hu=> ?_;apply wpS_seq;apply wpS_region;generalize hQ:Exit.thenS _ _=Q;simp[wpOpsS,go_sem,recoverD,hu,ntmps115,hn,hp,h0',h1'];rw[rep13];simp only[List.setIfInBounds_toArray,List.set_cons_zero,List.set_cons_succ,List.append_toArray,List.cons_append,List.nil_append];subst hQ;simp only[Exit.thenS];refine wpS_of_wp (wp_mono (Q:=λen a' w'=>en=.normal/\a'.defers=[]/\w'=w) ?_ ?_)
 . go_wp2
   all_goals trivial
 rintro e a' w' ⟨rfl,hd,rfl⟩
 cases c₀;simp_all[bodyPostS,results,results115]
theorem zhB (na pa ea pp room:Nat) (n:Int) (ev:Value) (w:ω) (hn:w.i na 0 n) (he:w.v ea 0 ev) (hp:w.v pa 0 (σ pp room room)) (fn:w.q na 0) (fe:w.q ea 0) (qg:na≠ea) (h0:n<0):
 CallsD prog 115 #[π na,π pa,π ea] .returning w λe u' w'=>e=ρ (ϕ #[])/\u'=.returning/\w'=ς (ς w na.a (ι 0)) ea.a (Δ 86 (ι 11)):=by
 refine callsD_of_wpS func115 rfl λc₀ cs hu=> ?_;apply wpS_seq;apply wpS_region;generalize hQ:Exit.thenS _ _=Q;simp[wpOpsS,go_sem,recoverD,hu,ntmps115,hn,hp,h0];exact zzAL
theorem zfx (na pa ea pp room:Nat) (n:Int) (ev:Value) (w:ω) (hn:w.i na 0 n) (he:w.v ea 0 ev) (hp:w.v pa 0 (σ pp room room)) (fn:w.q na 0) (fe:w.q ea 0) (qg:na≠ea) (h0:¬ n<0) (h1:(room:Int)<n):
 CallsD prog 115 #[π na,π pa,π ea] .returning w λe u' w'=>e=ρ (ϕ #[])/\u'=.returning/\w'=ς (ς w na.a (ι 0)) ea.a (Δ 86 (ι 11)):=by
 refine callsD_of_wpS func115 rfl λc₀ cs hu=> ?_;apply wpS_seq;apply wpS_region;generalize hQ:Exit.thenS _ _=Q;simp[wpOpsS,go_sem,recoverD,hu,ntmps115,hn,hp,h0,h1];exact zzAL
theorem ziF (na pa ea pp room:Nat) (n:Int) (ev:Value) (w:ω) (hn:w.i na 0 n) (he:w.v ea 0 ev) (hp:w.v pa 0 (σ pp room room)) (fn:w.q na 0) (fe:w.q ea 0) (qg:na≠ea):
 CallsD prog 115 #[π na,π pa,π ea] (.panicking [{v:=Δ 9 (γ zbX),recovered:=false}]) w λe u' w'=>e=ρ (ϕ #[])/\u'=.panicking [{v:=Δ 9 (γ zbX),recovered:=true}]/\w'=ς (ς w na.a (ι 0)) ea.a (Δ 86 (ι 11)):=by
 refine callsD_of_wpS func115 rfl λc₀ cs hu=> ?_;apply wpS_seq;apply wpS_region;generalize hQ:Exit.thenS _ _=Q;simp[wpOpsS,go_sem,recoverD,hu,ntmps115,hn,hp];exact zzAL
def dV (room:Nat) (S:lN):Nat×Nat×η×lN:=
 match yR room S with
 | (.ret n e,b,S')=>if n<0\/(room:Int)<n then (0,11,⟨#[]⟩,S') else (n.toNat,e,b,S')
 | (.pan,_,S')=>(0,11,⟨#[]⟩,S')
theorem yF (room:Nat):∀ (l:List Pc) (pos:Nat) (em:Int) (n:Int) (e:Nat),(eQ room l pos em).1=.ret n e->0<=n->n<=(room:Int)->(eQ room l pos em).2.1.size=n.toNat
 | [],pos,em,n,e,h,h0,h1=>by
  simp only[eQ] at h ⊢;cases h;rfl
 | p::r,pos,em,n,e,h,h0,h1=>by
  rw[eQ] at h ⊢;by_cases c1:pos<p.text.size
  . grind [kZ]
  rw[zN c1] at h ⊢
  by_cases c2:em<p.n
  . rw[zP c2] at h ⊢;cases h;rfl
  rw[zN c2] at h ⊢
  by_cases c3:p.kind=1\/p.kind=5
  . rw[zP c3] at h ⊢;cases h;rfl
  rw[zN c3] at h ⊢
  by_cases c4:p.kind=2
  . grind
  rw[zN c4] at h ⊢
  by_cases c5:p.kind=3
  . grind
  rw[zN c5] at h ⊢
  by_cases c6:p.kind=4
  . grind
  rw[zN c6] at h ⊢
  exact yF room r 0 0 n e h h0 h1
def zc3 (B sb pp room:Nat) (X:Nat×Nat×η×lN) (w:ω) (e:Ending) (w':ω):Prop:=
 e=ρ (ϕ #[ι X.1,fN X.2.1])/\oP B w' sb X.2.2.2/\(∃ arr,w'.h pp arr 5/\arr.size=room/\∀ i,i<X.1->arr[i]?=some (.int .u8 (bL X.2.2.1 i)))/\vI sb pp w w'
def PanQ (Pn:List PanicEntry->World->Prop) (Inv:Act->Prop) (Q:Exit->Act->World->Prop):Exit->Act->World->Prop
 | .panic c,a,w=>Pn c w/\Inv a
 | e,a,w=>Q e a w
def OnInv (na ea:Nat) (ds:List Deferred) (a:Act):Prop:=a.tmps.getD 4 undef=Φ (some ⟨na,0,none⟩)/\a.tmps.getD 5 undef=Φ (some ⟨ea,0,none⟩)/\a.defers=ds
theorem zcm {na ea d:Nat} {ds:List Deferred} {v:Value} (h4:d≠4) (h5:d≠5) (h:OnInv na ea ds (a.put (some d) v)):OnInv na ea ds a:=by
 obtain⟨h1,h2,h3⟩:=h;refine⟨?_,?_,h3⟩
 all_goals simp_all[Act.put]
theorem zdh {P:Program} {id:Nat} {b:Bool} (Pn:List PanicEntry->World->Prop) (Inv:Act->Prop) (hp:∀ c a w,Pn c w->Inv a->Q (.panic c) a w) (h:(Code.region id ops b).wp P (PanQ Pn Inv Q) a w):(Code.region id ops b).wp P Q a w:=
 Code.wp_mono (λe a w h=>by cases e<;>first|exact h|exact hp _ _ _ h.1 h.2) h
theorem once_any (S:lN) (B:Nat) (w:ω) (bs bt sb pp room C:Nat) (arr:Array Value) (bv why err:Value) (aQ line col:Int) (hSc:ScAt w bs bt (Δ 145 (aF sb)) C bv why err aQ line col) (hS:oP B w sb S) (Hq:vJ S) (tW:bs≠sb/\bs≠pp) (dv:B<=w.t) (hB:B<=pp) (Xx:w.h pp arr 5) (Hv:arr.size=room) (Yu:room<1000000):
 Γ 89 #[aF bs,σ pp room room] w (zc3 B sb pp room (dV room S) w):=by
 have:∀ w:ω,(method 437 145 (aF sb) "Read").run prog w=.ok (187,aF sb) w:=λ_=>by rfl
 have lbs:=aA hSc;have lpp:=aA Xx;obtain⟨w3,yj⟩:=zE (κ (κ (κ w (Ω #[σ pp room room] 40)) (Ω #[ι 0] 3)) (Ω #[.nilIface] 51));have Hu:w.u w3:=by rw[yj];exact ((Ξ w _).alloc zs _).alloc zx _
 have yo:w3.h w.t #[σ pp room room] 40:=by
  rw[yj];exact (bS _ _ _ zx).trans ((bS _ _ _ zs).trans (bA _ _ _ rfl))
 have ke:w3.h (w.t+1) #[ι 0] 3:=by
  rw[yj];exact (bS _ _ _ zs).trans (bA _ _ _ zs)
 have M7:w3.h (w.t+1+1) #[.nilIface] 51:=by
  rw[yj];exact bA _ _ _ zs
 have Nz:=(Hu.block bs lbs).trans hSc;have O3:=(Hu.block pp lpp).trans Xx;have E6:oP B w3 sb S:=hS.below (λb hb=>Hu.block b (zLd hb dv));have AC:=zhY S.l S.pos S.empty B w3.drew sb pp room arr (E6.below (λ_ _=>rfl)) Hq hB O3 Hv Yu;have s1:=zq 1 Nz;have p0:=zq 0 yo;have hXe:eQ room S.l S.pos S.empty=yR room S:=rfl;rw[hXe] at AC
 obtain⟨X,hX⟩:=zE (yR room S);rw[<-hX] at AC;obtain⟨X1,X2,X3⟩:=X;clear hXe Nz O3 E6
 go_enter_defers func89,ntmps89
 go_wp2_with fail;rw[<-yj];clear yj;cases X1 with
 | ret n x=>
  refine zzAl ?_;refine bV (λw'=>w'.v bs 1 (Δ 145 (aF sb))/\w'.v w.t 0 (σ pp room room)) 9 zr ⟨s1,p0⟩ (λHc=> ?_);refine zzAD ?_;refine bY 5 (λK hK=> ?_);go_simp;go_at_call 187;refine AC.mono ?_;intro e w4 ho;obtain⟨rfl,Vh,BA,yz⟩:=ho;simp only[rdE];have lsb:sb<B:=by obtain⟨_,_,_,_,_,_,_,h,_⟩:=hS;exact h
  have lb3:w.heap.size+1+1<w3.heap.size:=aA M7;have z1:w4.v bs 1 (Δ 145 (aF sb)):=(World.cell?_of_block (yz.keep bs (by show bs<w3.t;omega) tW.1 tW.2)).trans s1;have z0:w4.v w.t 0 (σ pp room room):=(World.cell?_of_block (yz.keep w.t zzDp zo zo)).trans p0;have DB:=(yz.keep w.t zzDp zo zo).trans yo
  have P4:=(yz.keep (w.t+1) (by show w.heap.size+1<w3.heap.size;omega) zo zo).trans ke;have PW:=(yz.keep (w.t+1+1) zzCj zo zo).trans M7;refine hK.out _ _ (λ_=>⟨z1,z0⟩) ?_;clear hK K Hc;refine zzAF ?_;obtain⟨ev,tY,yn⟩:∃ ev,fN x=ev/\(ev=.nilIface\/∃ k,ev=Δ 86 (ι k)):=⟨_,rfl,by unfold fN;grind⟩;rw[tY];have na0:=zq 0 P4;have ea0:=zq 0 PW
  have fna:=zF 0 P4;have fea:=zF 0 PW;have Hg:∀ (m e:Nat) (bb:η) (w7:ω),dV room S=(m,e,bb,X3)->(m=0\/(m<=X2.size/\bb=X2))->(∀ b,b<w.heap.size->w7.e w4 b)->w4.heap.size<=w7.heap.size->w7.os=w4.os->w7.tape=w4.tape->w7.output=w4.output->
   zc3 B sb pp room (dV room S) w (ρ (ϕ #[ι m,fN e])) w7:=λm e bb w7 h1 h2 h3 h4 h5 h6 h7=>by
   rw[h1];obtain⟨arr4,j1,j2,j3⟩:=BA;have c1:vI sb pp w w4:=(vI.of_below Hu).trans ⟨yz.os,yz.tape,yz.output,yz.size,yz.keep⟩;refine⟨rfl,Vh.below (λb hb=>h3 b zo),⟨arr4,(h3 pp (lpp)).trans j1,j2,λi hi=> ?_⟩,⟨h5.trans c1.os,h6.trans c1.tape,h7.trans c1.output,zT c1.size h4,λb hb k1 k2=>(h3 b hb).trans (c1.keep b hb k1 k2)⟩⟩
   rcases h2 with h2|⟨h2,h2b⟩
   . omega
   grind
  rcases yn with rfl|⟨k,rfl⟩
  . have Hc:=zAi z1 z0
    refine aE 6 Hc ?_;refine aE 7 Hc ?_;clear z1 z0;obtain⟨z1,z0⟩:=Hc;have lm:∀ v:Value,(ς w4 ⟨w.t+1,0,none⟩ v).v bs 1 (Δ 145 (aF sb))/\(ς w4 ⟨w.t+1,0,none⟩ v).v w.t 0 (σ pp room room):=λv=>
     ⟨(World.cell?_of_block (aD _ _ _ _ zg)).trans z1,(World.cell?_of_block (aD _ _ _ _ zs)).trans z0⟩
    refine bY 8 (λK hK=> ?_);go_simp;refine hK.out _ _ (λ_=>lm _) ?_;clear hK K;refine zzAF ?_;refine bY 9 (λK hK=> ?_);go_simp;refine hK.out _ _ (λh=>absurd rfl h) ?_;clear hK K;refine zzAF ?_;refine zzAg ?_;go_wp2_with fail;clear z1 z0 lm na0 ea0 fna fea
    have K5:=(aD (ς w4 ⟨w.t+1,0,none⟩ (ι n)) ⟨w.t+1+1,0,none⟩ .nilIface (w.t+1) zs).trans (aB w4 (w.t+1) 0 (ι n) _ _ _ P4);have KV:=aB (ς w4 ⟨w.t+1,0,none⟩ (ι n)) (w.t+1+1) 0 .nilIface _ _ _ ((aD w4 ⟨w.t+1,0,none⟩ (ι n) (w.t+1+1) zs).trans PW)
    have Ph:∀ b,b<w.heap.size+1->(ς (ς w4 ⟨w.t+1,0,none⟩ (ι n)) ⟨w.t+1+1,0,none⟩ .nilIface).e w4 b:=λb hb=>by
     grind [aD]
    have RS:(ς (ς w4 ⟨w.t+1,0,none⟩ (ι n)) ⟨w.t+1+1,0,none⟩ .nilIface).heap.size=w4.heap.size:=zs
    have P9:(ς (ς w4 ⟨w.t+1,0,none⟩ (ι n)) ⟨w.t+1+1,0,none⟩ .nilIface).os=w4.os/\(ς (ς w4 ⟨w.t+1,0,none⟩ (ι n)) ⟨w.t+1+1,0,none⟩ .nilIface).tape=w4.tape/\(ς (ς w4 ⟨w.t+1,0,none⟩ (ι n)) ⟨w.t+1+1,0,none⟩ .nilIface).output=w4.output:=⟨rfl,rfl,rfl⟩;generalize (ς w4 ⟨w.heap.size+1,0,none⟩ (ι n)).setCell ⟨w.heap.size+1+1,0,none⟩ .nilIface=w6 at K5 KV Ph RS P9 ⊢;have Nh:=(Ph w.t zo).trans DB
    have qn:=zQ 0 K5;have qe:=zQ 0 KV;have qp:=zQ 0 Nh;simp only[List.setIfInBounds_toArray,List.set_cons_zero,zLa,zLb] at qn qe qp;have rn:=zF 0 K5;have re:=zF 0 KV;have Na:w.heap.size+1≠w.heap.size+1+1:=zo
    have Qt:n<0\/(room:Int)<n->dV room S=(0,11,⟨#[]⟩,X3):=λh=>by unfold dV;rw[<-hX];grind
    have J6:∀ w7,(∀ b,b<w.heap.size->w7.e w6 b)->w6.heap.size<=w7.heap.size->w7.os=w6.os->w7.tape=w6.tape->w7.output=w6.output->(n<0\/(room:Int)<n)->zc3 B sb pp room (dV room S) w (ρ (ϕ #[ι 0,Δ 86 (ι 11)])) w7:=λw7 g1 g2 g3 g4 g5 g6=>
     Hg 0 11 ⟨#[]⟩ w7 (Qt g6) (.inl rfl) (λb hb=>(g1 b hb).trans (Ph b zo)) zo (g3.trans P9.1) (g4.trans P9.2.1) (g5.trans P9.2.2)
    refine zzAi ?_;have NO:∀ (b:Nat),(ς (ς w6 ⟨w.t+1,0,none⟩ (ι 0)) ⟨w.t+1+1,0,none⟩ (Δ 86 (ι 11))).heap[b]?=if b=w.t+1 then some (.cells #[ι 0] 3 (0,0)) else if b=w.t+1+1 then some (.cells #[Δ 86 (ι 11)] 51 (0,0)) else w6.heap[b]?:=λb=>by
     exact zzBG
    have S1:(ς (ς w6 ⟨w.t+1,0,none⟩ (ι 0)) ⟨w.t+1+1,0,none⟩ (Δ 86 (ι 11))).heap.size=w6.heap.size:=zs
    have ho7:(ς (ς w6 ⟨w.t+1,0,none⟩ (ι 0)) ⟨w.t+1+1,0,none⟩ (Δ 86 (ι 11))).os=w6.os/\(ς (ς w6 ⟨w.t+1,0,none⟩ (ι 0)) ⟨w.t+1+1,0,none⟩ (Δ 86 (ι 11))).tape=w6.tape/\(ς (ς w6 ⟨w.t+1,0,none⟩ (ι 0)) ⟨w.t+1+1,0,none⟩ (Δ 86 (ι 11))).output=w6.output:=⟨rfl,rfl,rfl⟩
    have yv:∀ w7,w7=(ς (ς w6 ⟨w.t+1,0,none⟩ (ι 0)) ⟨w.t+1+1,0,none⟩ (Δ 86 (ι 11)))->(n<0\/(room:Int)<n)->(w7.i (w.t+1) 0 0/\w7.v (w.t+1+1) 0 (Δ 86 (ι 11)))/\zc3 B sb pp room (dV room S) w (ρ (ϕ #[ι 0,Δ 86 (ι 11)])) w7:=λw7 he hc=>by
     exact zzBn
    have FF:zH (¬ n<0->¬ (room:Int)<n->zc3 B sb pp room (dV room S) w (ρ (ϕ #[ι n,.nilIface])) w6):=zh λg1 g2=>by
     exact zzAc
    clear S1 ho7 J6 Qt Ph RS P9 K5 KV Nh;by_cases c1:n<0
    . exact zzAy
    by_cases c2:(room:Int)<n
    . exact zzAx
    exact zzBI
  . have Hc:=zAi z1 z0
    refine aE 6 Hc ?_;refine aE 7 Hc ?_;clear z1 z0;obtain⟨z1,z0⟩:=Hc;have lm:∀ v:Value,(ς w4 ⟨w.t+1,0,none⟩ v).v bs 1 (Δ 145 (aF sb))/\(ς w4 ⟨w.t+1,0,none⟩ v).v w.t 0 (σ pp room room):=λv=>
     ⟨(World.cell?_of_block (aD _ _ _ _ zg)).trans z1,(World.cell?_of_block (aD _ _ _ _ zs)).trans z0⟩
    refine bY 8 (λK hK=> ?_);go_simp;refine hK.out _ _ (λ_=>lm _) ?_;clear hK K;refine zzAF ?_;refine bY 9 (λK hK=> ?_);go_simp;refine hK.out _ _ (λh=>absurd rfl h) ?_;clear hK K;refine zzAF ?_;refine zzAg ?_;go_wp2_with fail;clear z1 z0 lm na0 ea0 fna fea
    have K5:=(aD (ς w4 ⟨w.t+1,0,none⟩ (ι n)) ⟨w.t+1+1,0,none⟩ (Δ 86 (ι k)) (w.t+1) zs).trans (aB w4 (w.t+1) 0 (ι n) _ _ _ P4);have KV:=aB (ς w4 ⟨w.t+1,0,none⟩ (ι n)) (w.t+1+1) 0 (Δ 86 (ι k)) _ _ _ ((aD w4 ⟨w.t+1,0,none⟩ (ι n) (w.t+1+1) zs).trans PW)
    have Ph:∀ b,b<w.heap.size+1->(ς (ς w4 ⟨w.t+1,0,none⟩ (ι n)) ⟨w.t+1+1,0,none⟩ (Δ 86 (ι k))).e w4 b:=λb hb=>by
     grind [aD]
    have RS:(ς (ς w4 ⟨w.t+1,0,none⟩ (ι n)) ⟨w.t+1+1,0,none⟩ (Δ 86 (ι k))).heap.size=w4.heap.size:=zs
    have P9:(ς (ς w4 ⟨w.t+1,0,none⟩ (ι n)) ⟨w.t+1+1,0,none⟩ (Δ 86 (ι k))).os=w4.os/\(ς (ς w4 ⟨w.t+1,0,none⟩ (ι n)) ⟨w.t+1+1,0,none⟩ (Δ 86 (ι k))).tape=w4.tape/\(ς (ς w4 ⟨w.t+1,0,none⟩ (ι n)) ⟨w.t+1+1,0,none⟩ (Δ 86 (ι k))).output=w4.output:=⟨rfl,rfl,rfl⟩
    generalize (ς w4 ⟨w.heap.size+1,0,none⟩ (ι n)).setCell ⟨w.heap.size+1+1,0,none⟩ (Δ 86 (ι k))=w6 at K5 KV Ph RS P9 ⊢;have Nh:=(Ph w.t zo).trans DB;have qn:=zQ 0 K5;have qe:=zQ 0 KV;have qp:=zQ 0 Nh;simp only[List.setIfInBounds_toArray,List.set_cons_zero,zLa,zLb] at qn qe qp;have rn:=zF 0 K5;have re:=zF 0 KV;have Na:w.heap.size+1≠w.heap.size+1+1:=zo
    have Qt:n<0\/(room:Int)<n->dV room S=(0,11,⟨#[]⟩,X3):=λh=>by unfold dV;rw[<-hX];grind
    have J6:∀ w7,(∀ b,b<w.heap.size->w7.e w6 b)->w6.heap.size<=w7.heap.size->w7.os=w6.os->w7.tape=w6.tape->w7.output=w6.output->(n<0\/(room:Int)<n)->zc3 B sb pp room (dV room S) w (ρ (ϕ #[ι 0,Δ 86 (ι 11)])) w7:=λw7 g1 g2 g3 g4 g5 g6=>
     Hg 0 11 ⟨#[]⟩ w7 (Qt g6) (.inl rfl) (λb hb=>(g1 b hb).trans (Ph b zo)) zo (g3.trans P9.1) (g4.trans P9.2.1) (g5.trans P9.2.2)
    refine zzAi ?_;have NO:∀ (b:Nat),(ς (ς w6 ⟨w.t+1,0,none⟩ (ι 0)) ⟨w.t+1+1,0,none⟩ (Δ 86 (ι 11))).heap[b]?=if b=w.t+1 then some (.cells #[ι 0] 3 (0,0)) else if b=w.t+1+1 then some (.cells #[Δ 86 (ι 11)] 51 (0,0)) else w6.heap[b]?:=λb=>by
     exact zzBG
    have S1:(ς (ς w6 ⟨w.t+1,0,none⟩ (ι 0)) ⟨w.t+1+1,0,none⟩ (Δ 86 (ι 11))).heap.size=w6.heap.size:=zs
    have ho7:(ς (ς w6 ⟨w.t+1,0,none⟩ (ι 0)) ⟨w.t+1+1,0,none⟩ (Δ 86 (ι 11))).os=w6.os/\(ς (ς w6 ⟨w.t+1,0,none⟩ (ι 0)) ⟨w.t+1+1,0,none⟩ (Δ 86 (ι 11))).tape=w6.tape/\(ς (ς w6 ⟨w.t+1,0,none⟩ (ι 0)) ⟨w.t+1+1,0,none⟩ (Δ 86 (ι 11))).output=w6.output:=⟨rfl,rfl,rfl⟩
    have yv:∀ w7,w7=(ς (ς w6 ⟨w.t+1,0,none⟩ (ι 0)) ⟨w.t+1+1,0,none⟩ (Δ 86 (ι 11)))->(n<0\/(room:Int)<n)->(w7.i (w.t+1) 0 0/\w7.v (w.t+1+1) 0 (Δ 86 (ι 11)))/\zc3 B sb pp room (dV room S) w (ρ (ϕ #[ι 0,Δ 86 (ι 11)])) w7:=λw7 he hc=>by
     exact zzBn
    have FF:zH (¬ n<0->¬ (room:Int)<n->zc3 B sb pp room (dV room S) w (ρ (ϕ #[ι n,(Δ 86 (ι k))])) w6):=zh λg1 g2=>by
     exact zzAc
    clear S1 ho7 J6 Qt Ph RS P9 K5 KV Nh;by_cases c1:n<0
    . exact zzAy
    . by_cases c2:(room:Int)<n
      . exact zzAx
      . exact zzBI
 | pan=>
  obtain⟨ds,hds⟩:∃ ds:List Deferred,ds=[{target:=.fn (Fn.func 115) #[π (w.t+1),π w.t,π (w.t+1+1)],args:=#[]}]:=⟨_,rfl⟩;have HDS:=zh hds;clear hds;refine zdh (λc w'=>c=[{v:=Δ 9 (γ zbX),recovered:=false}]/\oP B w' sb X3/\(∃ arr,w'.h pp arr 5/\arr.size=room)/\vI sb pp w3 w') (OnInv (w.t+1) (w.t+1+1) ds) (λc a w4 h1 h2=> ?_) ?_
  . simp only[Exit.then]
    obtain⟨rfl,Vh,⟨arr4,j1,j2⟩,yz⟩:=h1;obtain⟨i4,i5,i6⟩:=h2;show Leaves prog Tryz.f89 a.tmps (zc3 B sb pp room (dV room S) w) a.defers (.panicking _) w4;rw[i6,HDS.o];have lsb:sb<B:=by obtain⟨_,_,_,_,_,_,_,h,_⟩:=hS;exact h
    have lb3:w.heap.size+1+1<w3.heap.size:=aA M7;have DB:=(yz.keep w.t zo zo zo).trans yo;have P4:=(yz.keep (w.t+1) zo zo zo).trans ke;have PW:=(yz.keep (w.t+1+1) zo zo zo).trans M7;have qn:=zq 0 P4;have qe:=zq 0 PW;have qp:=zq 0 DB;have rn:=zF 0 P4;have re:=zF 0 PW
    refine zzAi ?_;refine (ziF (w.t+1) w.t (w.t+1+1) pp room 0 _ w4 qn qe qp rn re zo).mono ?_;rintro r' u' w7 ⟨rfl,rfl,Kp⟩;have k1:w7.h (w.t+1) #[ι 0] 3:=by
     rw[Kp,aD _ _ _ _ zs];exact aB _ _ 0 _ _ _ _ P4
    have k2:w7.h (w.t+1+1) #[Δ 86 (ι 11)] 51:=by
     rw[Kp];exact aB _ _ 0 _ _ _ _ ((aD _ _ _ _ zs).trans PW)
    have k3:∀ b,b<w.heap.size->w7.e w4 b:=λb hb=>by
     grind [aD]
    have k4:w7.heap.size=w4.heap.size/\w7.os=w4.os/\w7.tape=w4.tape/\w7.output=w4.output:=by rw[Kp];exact⟨zs,rfl,rfl,rfl⟩
    have t1:=zq 0 k1;have t2:=zq 0 k2;clear Kp k1 k2;have Hg:zc3 B sb pp room (dV room S) w (ρ (ϕ #[ι 0,Δ 86 (ι 11)])) w7:=by
     have hX:dV room S=(0,11,⟨#[]⟩,X3):=by unfold dV;rw[<-hX]
     rw[hX];have c1:vI sb pp w w4:=(vI.of_below Hu).trans yz;exact⟨rfl,Vh.below (λb hb=>k3 b zo),⟨arr4,(k3 pp lpp).trans j1,j2,λi hi=>absurd (show i<0 from hi) zo⟩,⟨k4.2.1.trans c1.os,k4.2.2.1.trans c1.tape,k4.2.2.2.trans c1.output,zg,λb hb e1 e2=>(k3 b hb).trans (c1.keep b hb e1 e2)⟩⟩
    rw[Array.getD_eq_getD_getElem?] at i4 i5;simp[Leaves,settle,results,results89,go_sem,i4,i5,t1,t2];exact Hg
  refine bV (λw'=>w'.v bs 1 (Δ 145 (aF sb))/\w'.v w.t 0 (σ pp room room)) 9 zr ⟨s1,p0⟩ (λHc=> ?_)
  refine aE 0 Hc ?_ (hQ:=λ_ _ _ h=>⟨h.1,zcm (d:=7) zd zd h.2⟩);refine aE 1 Hc ?_ (hQ:=λ_ _ _ h=>⟨h.1,zcm (d:=8) zd zd h.2⟩);refine aE 2 Hc ?_ (hQ:=λ_ _ _ h=>⟨h.1,zcm (d:=9) zd zd h.2⟩);refine aE 3 Hc ?_ (hQ:=λ_ _ _ h=>⟨h.1,zcm (d:=10) zd zd h.2⟩);refine aE 4 Hc ?_ (hQ:=λ_ _ _ h=>⟨h.1,zcm (d:=11) zd zd h.2⟩);refine bY 5 (λK hK=> ?_);go_simp;go_at_call 187;refine AC.mono ?_;intro e w4 ho;obtain⟨rfl,Vh,⟨arr4,j1,j2,_⟩,yz⟩:=ho;simp only[rdE];exact⟨⟨rfl,Vh,⟨arr4,j1,j2⟩,⟨yz.os,yz.tape,yz.output,yz.size,yz.keep⟩⟩,⟨rfl,rfl,HDS.o.symm⟩⟩
def oI (room:Nat):Nat->η->lN->η×Nat×lN
 | 0,buf,S=>(buf,12,S)
 | k+1,buf,S=>
  if (dV room S).2.1≠0\/0<(dV room S).1 then (buf++ε ((dV room S).2.2.1) 0 (dV room S).1,(dV room S).2.1,(dV room S).2.2.2)
  else oI room k buf (dV room S).2.2.2
def zgW (C len:Nat):Nat:=min (C-len) (max 16 len)
def dL (C:Nat) (buf:η) (S:lN):η×Nat×lN:=oI (zgW C buf.size) 8 buf S
structure kQ (B:Nat) (w:ω) (bs bt sb C:Nat) (buf:η) (why err:Nat) (aQ line col:Int) (S:lN) (bv:Value):Prop where
 sc:ScAt w bs bt (Δ 145 (aF sb)) C bv (fN why) (fN err) aQ line col
 buf:qH w bv buf
 src:oP B w sb S
 ok:vJ S
 bB:B<=bs
 own:∀ g,β bv=some g->B<=g/\g≠bs
structure iI (bs sb:Nat) (bv bv':Value) (w w':ω):Prop where
 os:w'.os=w.os
 tape:w'.tape=w.tape
 output:w'.output=w.output
 size:w.heap.size<=w'.heap.size
 keep:∀ b,b<w.heap.size->b≠bs->b≠sb->β bv≠some b->w'.e w b
 new:∀ g,β bv'=some g->β bv=some g\/w.t<=g
theorem iI.trans {b3:Value} (h:iI bs sb b1 b2 u v) (k:iI bs sb b2 b3 v w):iI bs sb b1 b3 u w:=
 ⟨k.os.trans h.os,k.tape.trans h.tape,k.output.trans h.output,zT h.size k.size,
  λb hb h1 h2 h3=>(k.keep b (zLd hb h.size) h1 h2 (λe=>by rcases h.new b e with e|e;exact h3 e;omega)).trans (h.keep b hb h1 h2 h3),
  λg hg=>by
   rcases k.new g hg with e|e
   . exact h.new g e
   exact .inr (zT h.size e)⟩
theorem iI.of_below {bv:Value} (h:u.u v):iI bs sb bv bv u v:=⟨h.os,h.tape,h.output,h.size,λb hb _ _ _=>h.block b hb,λ_ h=>.inl h⟩
section
variable {B:Nat} {w w':ω} {bs bt sb C:Nat} {buf:η} {why err:Nat} {aQ line col:Int} {S:lN} {bv:Value}
theorem kQ.lt (h:kQ B w bs bt sb C buf why err aQ line col S bv):sb<B/\B<=w.t/\bs<w.t/\bs≠sb:=by
 obtain⟨_,_,_,_,_,_,_,h1,_⟩:=h.src;have:=h.bB;have:=aA h.sc;omega
theorem kQ.below (h:kQ B w bs bt sb C buf why err aQ line col S bv) (hb:w.u w'):kQ B w' bs bt sb C buf why err aQ line col S bv:=
 ⟨(hb.block bs (aA h.sc)).trans h.sc,h.buf.kept (λg hg=>hb.block g (h.buf.lt g hg)),h.src.below (λb Qy=>hb.block b (zLd Qy h.lt.2.1)),h.ok,h.bB,h.own⟩
theorem kQ.read (h:kQ B w bs bt sb C buf why err aQ line col S bv) {S':lN} (hp:B<=pp) (Vr:pp≠bs) (hpv:β bv≠some pp) (hs:oP B w' sb S') (Hq:vJ S') (hc:vI sb pp w w'):kQ B w' bs bt sb C buf why err aQ line col S' bv:=
 ⟨(hc.keep bs h.lt.2.2.1 h.lt.2.2.2 (Ne.symm Vr)).trans h.sc,h.buf.kept (λg hg=>hc.keep g (h.buf.lt g hg) (by have:=(h.own g hg).1;have:=h.lt.1;omega) (λe=>hpv zg)),hs,Hq,h.bB,h.own⟩
theorem kQ.store (h:kQ B w bs bt sb C buf why err aQ line col S bv) {bv':Value} {buf':η} (hb:qH w' bv' buf') (hg:∀ b,b<w.heap.size->β bv≠some b->w'.e w b) (hn:∀ g,β bv'=some g->β bv=some g\/w.t<=g):
 kQ B (w'.setCell (bs.p 3) bv') bs bt sb C buf' why err aQ line col S bv':=by
 have tW:β bv≠some bs:=λe=>(h.own bs e).2 rfl;have rz:∀ b,b<B->β bv≠some b:=λb hb e=>by have:=(h.own b e).1;omega
 have h1:=(hg bs h.lt.2.2.1 tW).trans h.sc;have ho:∀ g,β bv'=some g->B<=g/\g≠bs:=λg QY=>by
  rcases hn g QY with e|e
  . grind
  have:=h.lt;omega
 refine⟨aB _ bs 3 _ _ _ _ h1,hb.kept (λg QY=>aD _ _ _ _ (ho g QY).2),h.src.below (λb Qy=>(aD _ _ _ _ (by have:=h.bB;grind)).trans (hg b (zLd Qy h.lt.2.1) (rz b Qy))),h.ok,h.bB,ho⟩
theorem kQ.setWhy (h:kQ B w bs bt sb C buf why err aQ line col S bv) (y:Nat):kQ B (ς w (bs.p 4) (fN y)) bs bt sb C buf y err aQ line col S bv:=
 ⟨aB _ bs 4 _ _ _ _ h.sc,h.buf.kept (λg hg=>aD _ _ _ _ (h.own g hg).2),h.src.below (λb Qy=>aD _ _ _ _ (by have:=h.bB;grind)),h.ok,h.bB,h.own⟩
theorem kQ.setErr (h:kQ B w bs bt sb C buf why err aQ line col S bv) (y:Nat):kQ B (ς w (bs.p 5) (fN y)) bs bt sb C buf why y aQ line col S bv:=
 ⟨aB _ bs 5 _ _ _ _ h.sc,h.buf.kept (λg hg=>aD _ _ _ _ (h.own g hg).2),h.src.below (λb Qy=>aD _ _ _ _ (by have:=h.bB;grind)),h.ok,h.bB,h.own⟩
end
theorem iI.set {o:Nat} {bv:Value} (v:Value):iI bs sb bv bv w (ς w (bs.p o) v):=⟨rfl,rfl,rfl,zs,λb _ h _ _=>aD _ _ _ _ h,λ_ h=>.inl h⟩
theorem zcX {o:Oper} {K:Act->World->Prop} {E:Prop} (Ko:o.guard=none) (s x:Operand)
 (ho:o.op=.call {callee:=.builtin .append,args:=#[s,x],argTypes:=#[40,40]}) (v:Value) (b t:η) (hs:a.eval s=v) (hB:qH w v b) (ad:Addr) (c:Nat) (hx:a.eval x=τ (some ad) t.size c)
 (hnews:∀ j,j<t.size->w.cell? (ad.add j)=some (.int .u8 (bL t j))) (hb:b.size+t.size<=1000000000)
 (h:∀ v' w',qH w' v' (b++t)->w.grownBy w' (β v)->(∀ g,β v'=some g->β v=some g\/w.t<=g)->K (a.put o.dst v') w'):
 if Region.wanted o (yielded ops a.tmps)=true then Oper.wp prog o a w K Q else E:=by
 have hw:Region.wanted o (yielded ops a.tmps)=true:=by simp[Region.wanted,Ko]
 rw[zP hw];obtain⟨v',w',hr,h2,h3,h4⟩:=zdd w o.type v b t hB ad c hnews hb;unfold Oper.wp execOp;refine zzAe ?_;exact h v' w' h2 h3 h4
theorem ziH (n:Nat) (hn:n<=1000000) (w:ω):(Instr.makeSlice 40 (ι (n:Int)) (ι (n:Int))).run prog w=.ok (σ w.t n n) (κ w (Ω (madeCells #[.int .u8 0] n) 5)):=by
 obtain⟨i,h1,h2,h3,h4⟩:=info_parts (P:=prog) (e:=5) (z:=.int .u8 0) (size:=1) (bytes:=1) zK;have h:=run_makeSlice w 40 5 i (.int .u8 0) underlying40 h1 h2 .i64 .i64 n n zo (Int.le_refl _) zg zg zo;rw[h,h3,Nat.mul_one,Int.toNat_natCast];rfl
theorem onceP_src (room:Nat) (S:lN):(dV room S).2.2.2=(yR room S).2.2:=by
 grind [dV]
theorem onceP_ok (room:Nat) (S:lN) (h:vJ S):vJ (dV room S).2.2.2:=by
 rw[onceP_src];exact zhX room S.l S.pos S.empty h
theorem zbo (room:Nat) (S:lN):(dV room S).1<=room/\(dV room S).1<=(dV room S).2.2.1.size:=by
 grind [yF,dV,yR]
theorem app_empty (b t:η) (h:t.size=0):b++t=b:=by
 simp_all
theorem iI.chg (h:iI bs sb b1 b2 u v) (hc:vI sb pp v w) (Xx:u.t<=pp):iI bs sb b1 b2 u w:=
 ⟨hc.os.trans h.os,hc.tape.trans h.tape,hc.output.trans h.output,zT h.size hc.size,λb hb h1 h2 h3=>(hc.keep b (zLd hb h.size) h2 zo).trans (h.keep b hb h1 h2 h3),h.new⟩
theorem iI.grow {b3:Value} (h:iI bs sb b1 b2 u v) (hg:v.grownBy w (β b2)) (hn:∀ g,β b3=some g->β b2=some g\/v.t<=g):iI bs sb b1 b3 u w:=
 h.trans ⟨hg.os,hg.tape,hg.output,hg.size,λb hb _ _ h3=>hg.block b hb (λe=>h3 e.symm),hn⟩
def MoreO (B:Nat) (bs bt sb C:Nat) (R:η×Nat×lN) (err:Nat) (aQ line col:Int) (bv:Value) (w:ω) (e:Ending) (w':ω):Prop:=
 e=ρ (ϕ #[])/\∃ bv',kQ B w' bs bt sb C R.1 R.2.1 err aQ line col R.2.2 bv'/\iI bs sb bv bv' w w'
theorem more_any (B:Nat) (w:ω) (bs bt sb C:Nat) (buf:η) (why err:Nat) (aQ line col:Int) (S:lN) (bv:Value) (h:kQ B w bs bt sb C buf why err aQ line col S bv) (hC:buf.size<C) (hC2:C<=900000):
 Γ 46 #[aF bs] w (MoreO B bs bt sb C (dL C buf S) err aQ line col bv w):=by
 obtain⟨room,Yu⟩:=zE (zgW C buf.size);have:min ((C:Int)-(buf.size:Int)) (max 16 (buf.size:Int))=(room:Int):=by rw[Yu];unfold zgW;omega
 have:1<=room/\room<1000000:=by rw[Yu];unfold zgW;omega
 obtain⟨ao,cap,MO⟩:∃ ao cap,bv=τ ao buf.size cap:=by
  rcases h.buf with⟨e,h0⟩|⟨g,off,cap,cells,e,_⟩
  all_goals grind
 subst MO;have H:=zh h;have HR:=zh Yu;have:=zq 2 h.sc;have:=zq 3 h.sc;have:=h.lt.2.2.1;clear h Yu;go_in;go_upto_region 0 with fail
 go_quiet (fail);go_upto_region 1 with fail
 have hq:kQ B (w.drewN nq) bs bt sb C buf why err aQ line col S (τ ao buf.size cap):=H.o.below ⟨rfl,rfl,rfl,bR,λ_ _=>rfl⟩;have I3:iI bs sb (τ ao buf.size cap) (τ ao buf.size cap) w (w.drewN nq):=iI.of_below ⟨rfl,rfl,rfl,bR,λ_ _=>rfl⟩;have Fc:(w.drewN nq).heap.size=w.heap.size:=rfl;generalize w.drewN nq=wq at hq I3 Fc ⊢;have T0:=ziH room zo wq;have YV:wq.u (κ wq (Ω (madeCells #[.int .u8 0] room) 5)):=iM.alloc bR _
 have DW:=hq.below YV;have RY:=I3.trans (iI.of_below YV);have Y5:(κ wq (Ω (madeCells #[.int .u8 0] room) 5)).h wq.t (madeCells #[.int .u8 0] room) 5:=bA _ _ _ rfl;have ZQ:∀ g,β (Value.slice ao buf.size cap)=some g->g<wq.t:=hq.buf.lt;obtain⟨pp,Xx⟩:=zE (wq.heap.size);have AY:=Θ Xx Fc;have O4:B<=pp:=by have:=hq.lt;omega
 have DC:pp≠bs:=by have:=hq.lt;omega
 have hppv:β (Value.slice ao buf.size cap)≠some pp:=λe=>by grind
 clear Fc Xx;go_upto_region 2 with fail
 have Xx:=AY.o.1;rw[<-Xx] at Y5 ⊢;generalize wq.alloc (Ω (madeCells #[.int .u8 0] room) 5)=wa at DW RY Y5 ⊢;have HA:=Λ DW RY Y5;clear hq I3 T0 YV DW RY Y5 ZQ Xx;go_wp2_with fail
 go_loopg [25] 8 (λgh s25 wr=>∃ (i:Nat) (why2:Nat) (S2:lN) (Xe:Option Addr) (Q6:Nat) (arr:Array Value),i+gh=8/\s25=ι i/\kQ B wr bs bt sb C buf why2 err aQ line col S2 (τ Xe buf.size Q6)/\iI bs sb (τ ao buf.size cap) (τ Xe buf.size Q6) w wr/\wr.h pp arr 5/\arr.size=room/\β (Value.slice Xe buf.size Q6)≠some pp/\oI room (8-i) buf S2=oI room 8 buf S)
 case atStart=>exact⟨0,why,S,ao,cap,_,zo,rfl,HA.o.1,HA.o.2.1,HA.o.2.2,by simp[size_madeCells],hppv,rfl⟩
 case round=>
  obtain⟨i,why2,S2,Xe,Q6,arr,hig,rfl,Hh,K1,pm,Hv,Bz,Jn⟩:=hrel;have HS:=Ψ Hh K1 pm (zAi Hv Bz);have LA:=Θ hig Jn;by_cases Hf:i<8
  . have hz:(i:Int)<8:=zo
    have:=mF i;have ES:=once_any S2 B wr bs bt sb pp room C arr (τ Xe buf.size Q6) (fN why2) (fN err) aQ line col Hh.sc Hh.src Hh.ok ⟨Hh.lt.2.2.2,Ne.symm DC⟩ Hh.lt.2.1 O4 pm Hv zo;have Px:=zh ES;obtain⟨m,hm⟩:=zE ((dV room S2).1);obtain⟨y,hy⟩:=zE ((dV room S2).2.1);obtain⟨t,ht⟩:=zE (ε ((dV room S2).2.2.1) 0 m);obtain⟨S3,Xh⟩:=zE ((dV room S2).2.2.2)
    have I8:=zbo room S2;rw[<-hm] at I8;have CY:t.size=m:=by rw[ht];exact fS _ _ I8.2
    have:=zu m room
    have By:oI room (8-i) buf S2=if y≠0\/0<m then (buf++t,y,S3) else oI room (8-(i+1)) buf S3:=by
     rw[show 8-i=(8-(i+1))+1 by omega,oI,<-hm,<-hy,<-ht,<-Xh]
    have Y9:=zh By;have HE:=Ψ hm hy ht (zAi Xh (zAi CY I8));have MI:buf.size+m<=1000000000:=zo
    obtain⟨ev,tY,yn⟩:∃ ev,fN y=ev/\((y=0/\ev=.nilIface)\/(y≠0/\ev=Δ 86 (ι y))):=⟨_,rfl,by
     by_cases h0:y=0
     . exact .inl ⟨h0,by rw[h0];rfl⟩
     exact .inr ⟨h0,by unfold fN;rw[zN h0]⟩⟩
    have Ab:=zh tY;clear ES Hh K1 pm Hv Bz Jn hig ht Xh CY I8 hm hy By tY;go_upto_region 5 with (go_at_call 89;refine Px.o.mono ?_;rintro e w4 ⟨rfl,Vh,Ev,yz⟩;rw[<-HE.o.1,<-HE.o.2.1,Ab.o];have RW:=Λ Vh Ev yz;clear Vh Ev yz)
    have i7:=HS.o.1.read O4 DC HS.o.2.2.2.2 (S':=S3) (by rw[HE.o.2.2.2.1];exact RW.o.1) (by rw[HE.o.2.2.2.1];exact onceP_ok room S2 HS.o.1.ok) RW.o.2.2;have Ol:=HS.o.2.1.chg RW.o.2.2 (by have:=AY.o;omega);obtain⟨arr4,j1,j2,j3⟩:=RW.o.2.1;have OV:∀ j,j<t.size->w4.cell? ((pp.a:Addr).add j)=some (.int .u8 (bL t j)):=λj hj=>by
     have CY:=HE.o.2.2.2.2.1;have I8:=HE.o.2.2.2.2.2;rw[zhd,bF _ _ j _ _ _ j1,j3 j (by rw[<-HE.o.1];omega),HE.o.2.2.1,iV _ _ j I8.2 zo]
    have H4:=Ψ i7 Ol (zAi j1 j2) OV;have v3:=zq 3 i7.sc;clear i7 Ol j1 j2 j3 OV;refine zzAl ?_;refine bV (λw'=>w'.v bs 3 (τ Xe buf.size Q6)) 12 zr v3 (λHc=> ?_);refine zzAC ?_;refine aE 8 Hc ?_;clear Hc;refine bY 9 (λK hK=> ?_);refine zcX zr _ _ zr (τ Xe buf.size Q6) buf t zr (by exact H4.o.1.buf) pp.a m (by rw[<-HE.o.2.2.2.2.1];rfl) (by intro j hj;exact H4.o.2.2.2 j hj) (by rw[HE.o.2.2.2.2.1];exact MI) ?_;intro v5 w5 Qn Ci OO;have Jj:w4.grownBy w5 (β (Value.slice Xe buf.size Q6)):=⟨Ci.os,Ci.tape,Ci.output,Ci.size,Ci.block⟩
    have G4:∀ g,β v5=some g->β (Value.slice Xe buf.size Q6)=some g\/w4.t<=g:=OO;clear Ci OO;obtain⟨kt,n5,Xf,rfl,nj⟩:∃ ao n cap,v5=τ ao n cap/\n=(buf++t).size:=by
     rcases Qn with⟨e,h0⟩|⟨g,off,cap,cells,e,_⟩
     . exact⟨none,0,0,e,h0.symm⟩
     exact⟨_,_,cap,e,rfl⟩
    have CE:=zh nj;clear nj;have Rf:=H4.o.1.store Qn (λb hb qg=>Jj.block b hb (λe=>qg e.symm)) G4;have Om:=(H4.o.2.1.grow Jj G4).trans (iI.set (bs:=bs) (sb:=sb) (o:=3) (w:=w5) (τ kt n5 Xf));have Oz:=aA H4.o.2.2.1.1;have Pk:(ς w5 (bs.p 3) (τ kt n5 Xf)).h pp arr4 5:=(aD _ _ _ _ DC).trans ((Jj.block pp Oz (λe=>HS.o.2.2.2.2 e.symm)).trans H4.o.2.2.1.1);have OU:β (Value.slice kt n5 Xf)≠some pp:=λe=>by
     rcases G4 pp e with e'|e'
     . exact HS.o.2.2.2.2 e'
     omega
    have Gt:=(Jj.block bs H4.o.1.lt.2.2.1 (λe=>(H4.o.1.own bs e.symm).2 rfl)).trans H4.o.1.sc;have v3':=zQ 3 Gt;simp only[zLa,zLb,zLc] at v3';have fz3:=zF 3 Gt;have H6:=Ψ Rf Om Pk OU;clear Rf Om Pk OU Qn Jj G4 Gt;refine hK.out _ _ (λ_=>v3') ?_;clear hK K;refine zzAF ?_;refine bY 10 (λK hK=> ?_);go_simp;refine hK.out _ _ (λ_=>v3') ?_
    clear hK K;refine zzAF ?_;refine bY 11 (λK hK=> ?_);go_simp;refine hK.out _ _ (λ_=>v3') ?_;clear hK K;refine zzAF ?_;refine bY 12 (λK hK=> ?_);go_simp;refine hK.out _ _ (λh=>absurd rfl h) ?_;clear hK K;refine zzAF ?_;refine zzAg ?_;generalize w5.setCell (bs.p 3) (τ kt n5 Xf)=w6 at H6 ⊢;have Kp:=H6.o.1.setWhy y;rw[Ab.o] at Kp
    have RX:=H6.o.2.1.trans (iI.set (bs:=bs) (sb:=sb) (o:=4) (w:=w6) ev);have O0:(ς w6 (bs.p 4) ev).h pp arr4 5:=(aD _ _ _ _ DC).trans H6.o.2.2.1;have H7:=Λ Kp RX O0;have w4c:=zq 4 H6.o.1.sc;have fz4:=zF 4 H6.o.1.sc;clear Kp RX O0 v3 v3' fz3 Oz
    rcases yn with⟨DY,rfl⟩|⟨DY,rfl⟩
    . by_cases I6:0<m
      . have hzm:=zp m
        go_wp2;go_end0;refine⟨rfl,_,?_,H7.o.2.1⟩;have e:dL C buf S=(buf++t,y,S3):=by
         unfold dL;rw[<-HR.o,<-LA.o.2,Y9.o,zP (.inr I6)]
        rw[e];exact H7.o.1
      have hzm:¬ (0:Int)<(m:Int):=zo
      have JH:t.size=0:=by rw[HE.o.2.2.2.2.1];omega
      have MN:buf++t=buf:=app_empty _ _ JH;have nj:=CE.o;rw[MN] at nj;subst nj;have h7:=H7.o;rw[MN] at h7;have wg:=zh h7;have H6n:=zh H6.o.2.2.2;clear h7 MN JH;go_wp2;go_roundg (8-(i+1))
      case rel=>
       have Jn:=Y9.o;rw[zN zo] at Jn;exact⟨i+1,y,S3,kt,Xf,arr4,zo,by go_num,wg.o.1,wg.o.2.1,wg.o.2.2,H4.o.2.2.1.2,H6n.o,Jn.symm.trans LA.o.2⟩
      case measure=>have:=LA.o.1;omega
    go_wp2
    go_end0;refine⟨rfl,_,?_,H7.o.2.1⟩;have e:dL C buf S=(buf++t,y,S3):=by
     unfold dL;rw[<-HR.o,<-LA.o.2,Y9.o,zP (.inl DY)]
    rw[e];exact H7.o.1
  have hz:¬ (i:Int)<8:=zo
  have w4c:=zq 4 Hh.sc;have fz4:=zF 4 Hh.sc;clear Hh K1 pm Hv Bz Jn;go_wp2;go_end0;refine⟨rfl,_,?_,HS.o.2.1.trans (iI.set (bs:=bs) (sb:=sb) (o:=4) (w:=wr) (Δ 86 (ι 12)))⟩;have e:dL C buf S=(buf,12,S2):=by
   unfold dL;rw[<-HR.o,<-LA.o.2,show 8-i=0 by omega];rfl
  rw[e];exact HS.o.1.setWhy 12
def newScan (bt C:Nat) (rd:Value):Obj:=.cells #[aF bt,rd,ι C,ν,.nilIface,.nilIface,ι 0,ι 1,ι 1] 125
theorem new_any (bt C:Nat) (t:TypeId) (v:Value) (w:ω):Γ 116 #[aF bt,Δ t v,ι C] w λe w'=>e=ρ (aF w.t)/\w'=κ w (newScan bt C (Δ t v)):=by
 go_in;exact zzCA
def ScanO (B bt sb C:Nat) (S:lN) (w:ω) (e:Ending) (w':ω):Prop:=
 ∃ bs xb,e=ρ (ϕ #[aF xb,.nilIface])/\kQ B w' bs bt sb C ⟨#[]⟩ 0 0 0 1 1 S ν/\w'.h xb #[aF bs] 73/\w.t<=bs/\bs<xb/\w.u w'
theorem zdf (B cb bt sb C:Nat) (S:lN) (w:ω) (hc:w.h cb #[aF bt] 97) (hS:oP B w sb S) (Hq:vJ S) (hB:B<=w.t) (h4:4<=C) (hm:C<=100000):
 Γ 96 #[aF cb,Δ 145 (aF sb),ι C] w (ScanO B bt sb C S w):=by
 have:=zq 0 hc;have:¬ (C:Int)<4:=zo
 clear hc;go_in;go_wp2_with (first|(go_at_call 116;refine (new_any bt C _ _ _).mono ?_;rintro e w1 ⟨rfl,yw⟩;have HW:=zh yw;clear yw));refine bodyPost_ret (v:=ϕ #[aF w1.t,.nilIface]) zzAY rfl ?_;have hw:=HW.o;have Hk:w.u w1:=by rw[hw];exact Ξ w _
 have Yk:w1.heap[w.heap.size]?=some (newScan bt C (Δ 145 (aF sb))):=by rw[hw];exact bA _ _ _ rfl
 have:w1.heap.size=w.heap.size+1:=by rw[hw];simp
 have Hm:w1.u (κ w1 (Ω #[aF w.t] 73)):=iM.alloc bR _;have Hh:kQ B w1 w.t bt sb C ⟨#[]⟩ 0 0 0 1 1 S ν:=
  ⟨Yk,.inl ⟨rfl,rfl⟩,hS.below (λb hb=>Hk.block b zo),Hq,hB,λg hg=>by cases hg⟩
 refine⟨w.t,w1.t,rfl,Hh.below Hm,bA _ _ _ rfl,bR,zo,⟨Hm.os.trans Hk.os,Hm.tape.trans Hk.tape,Hm.output.trans Hk.output,zT Hk.size Hm.size,λb hb=>(Hm.block b zo).trans (Hk.block b hb)⟩⟩
theorem zeF (B cb bt sb C:Nat) (S:lN) (w:ω) (hc:w.h cb #[aF bt] 97) (hS:oP B w sb S) (Hq:vJ S) (hB:B<=w.t) (h4:4<=C) (hm:C<=100000):
 Γ 56 #[aF cb,aF sb,ι C] w (ScanO B bt sb C S w):=by
 have CY:=zdf B cb bt sb C S w hc hS Hq hB h4 hm;clear hc hS Hq;go_in;go_wp2_with (first|(go_at_call 96;refine CY.mono ?_;rintro e w1 ⟨bs,xb,rfl,ho⟩));exact bodyPost_ret (v:=ϕ #[aF xb,.nilIface]) zzAY rfl ⟨bs,xb,rfl,ho⟩
theorem oD:eO prog 31 47 3 32:=eO.of (z:=.agg #[γ ⟨#[]⟩,ι 0,ι 0]) underlying31 zK rfl zd
def dY (l:List Pc):ζ:=l.flatMap λp=>[γ p.text,ι p.n,ι p.kind]
theorem zcE (l:List Pc) (i:Nat) (p:Pc) (h:l[i]?=some p):(dY l)[i*3]?=some (γ p.text)/\(dY l)[i*3+1]?=some (ι p.n)/\(dY l)[i*3+2]?=some (ι p.kind):=by
 induction l generalizing i with
 | nil=>simp at h
 | cons a l ih=>
  have:dY (a::l)=γ a.text:: ι a.n:: ι a.kind::dY l:=rfl
  grind
theorem zcF (l:List Pc):∀ u∈dY l,u.oneCell'=true:=by
 intro u hu;simp only[dY,List.mem_flatMap,List.mem_cons,List.not_mem_nil,or_false] at hu;obtain⟨p,_,rfl|rfl|rfl⟩:=hu<;>rfl
theorem zjb (xb:Nat) (w:ω):Γ 53 #[aF xb] w λe w'=>e=ρ (.func (.func 95) #[] #[π w.t])/\w'=κ w (Ω #[aF xb] 66):=by
 go_in;go_wp2;go_ret;simp
