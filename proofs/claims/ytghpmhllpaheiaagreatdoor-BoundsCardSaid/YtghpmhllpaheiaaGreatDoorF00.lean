/- Part of a proof. No condition. -/
import Derived.Handy
import Derived.Lib.Hide
import Derived.Deep.LoopGhost
import Derived.BigQuiet
import Derived.WalkLawsBesides
import Derived.WalkSpells
import Derived.Test.YtghpmhllpaheiaaGreatDoorProg
set_option linter.unusedVariables false
set_option linter.unusedSimpArgs false
namespace Go.Proofs.YtghpmhllpaheiaaGreatDoor
open Go.RowKit
variable {w w' a:World} {b c n i size bytes:Nat} {t e:TypeId} {v:Value} {xs:List Value}
def Ext (w w':World):Prop:=∀ (b:Nat) (o:Obj),w.heap[b]?=some o->w'.heap[b]?=some o
theorem aA {o:Obj} (h:w.heap[b]?=some o):b<w.heap.size:=(Array.getElem?_eq_some_iff.1 h).1
theorem zcR (h:Below w.heap.size w w'):Ext w w':=λb _o hb=>(h.block b (aA hb)).trans hb
theorem Ext.refl (w:World):Ext w w:=λ_ _ h=>h
theorem Ext.trans {b c:World} (h:Ext a b) (k:Ext b c):Ext a c:=λx o hx=>k x o (h x o hx)
theorem aN (w:World) (o:Obj) (k:Nat):(w.alloc o).heap[k]?=if k=w.heap.size then some o else w.heap[k]?:=by
 show (w.heap.push o)[k]?=_;rw[Array.getElem?_push]
theorem aG (w:World) (a:Addr) (v:Value) (k:Nat) (hk:k≠a.block):(w.setCell a v).heap[k]?=w.heap[k]?:=Below.heap_setCell w a v k hk
theorem aC (w:World) (b o:Nat) (v:Value) (c:Array Value) (t:TypeId) (f:Nat×Nat) (h:w.heap[b]?=some (.cells c t f)):(w.setCell ⟨b,o,none⟩ v).heap[b]?=some (.cells (c.setIfInBounds o v) t f):=by
 simp only[World.setCell,Array.getElem?_modify,h];simp
theorem aB (w:World) (b o:Nat) (c:Array Value) (t:TypeId) (f:Nat×Nat) (h:w.heap[b]?=some (.cells c t f)):w.cell? ⟨b,o,none⟩=c[o]?:=by
 simp only[World.cell?,h];rfl
theorem aM (w:World) (b o:Nat) (c:Array Value) (t:TypeId) (h:w.heap[b]?=some (.cells c t (0,0))):w.frozen? ⟨b,o,none⟩=false:=by
 simp[World.frozen?,h]
theorem aD {b c:World} {row:Option Nat} (h:a.grownBy b row) (k:b.grownBy c row):a.grownBy c row:=
 ⟨k.os.trans h.os,k.tape.trans h.tape,k.output.trans h.output,Nat.le_trans h.size k.size,λi hi hr=>(k.block i (Nat.lt_of_lt_of_le hi h.size) hr).trans (h.block i hi hr)⟩
theorem eK (a:World) (row:Option Nat):a.grownBy a row:=⟨rfl,rfl,rfl,Nat.le_refl _,λ_ _ _=>rfl⟩
theorem aF {b:World} (h:Below a.heap.size a b) (row:Option Nat):a.grownBy b row:=⟨h.os,h.tape,h.output,h.size,λk hk _=>h.block k hk⟩
theorem zdD {b:World} {m:Nat} (h:Below m a b) (hn:n<=m):Below n a b:=h.mono hn
theorem lA {α:Type} {l:List α} {a:α}:l.toArray.setIfInBounds i a=(l.set i a).toArray:=List.setIfInBounds_toArray ..
theorem lB {α:Type} {l:List α} {a b:α}:(a::l).set 0 b=b::l:=rfl
theorem lC {α:Type} {l:List α} {a b:α}:(a::l).set (n+1) b=a::l.set n b:=rfl
theorem zLa {α:Type} {l:List α} :l.toArray[i]?=l[i]?:=List.getElem?_toArray
theorem zLb {α:Type} {a:α} {l:List α}:(a::l)[0]?=some a:=rfl
theorem zLc {α:Type} {a:α} {l:List α} :(a::l)[i+1]?=l[i]?:=rfl
theorem zLd {a:Nat} (h:a<b) (k:b<=c):a<c:=Nat.lt_of_lt_of_le h k
theorem zLe {α:Type} {l:List α} (h:i<l.length):l[i]?=some l[i]:=List.getElem?_eq_getElem h
theorem zLf {α:Type} {l:List α} {a:α}:l.getD i a=l[i]?.getD a:=List.getD_eq_getElem?_getD
theorem zE {α:Sort _} (a:α):∃ x,x=a:=⟨a,rfl⟩
theorem zG {α:Type _} (l:List α) (i:Nat) (h:i<l.length):∃ x,l[i]?=some x:=⟨_,List.getElem?_eq_getElem h⟩
theorem zW (i:Nat) (h:(i:Int)+1≤9223372036854775807):Go.IntKind.i64.wrap ((i:Int)+1)=(i:Int)+1:=Go.IntWalk.i64_in _ (by omega)
theorem zAi {a b:Prop} (h:a) (k:b):a∧b:=⟨h,k⟩
theorem zR (n:Nat):n≤n:=Nat.le_refl n
theorem zT {a:Nat} (h:a≤b) (k:b≤c):a≤c:=Nat.le_trans h k
theorem zZ (n:Nat):0≤n:=Nat.zero_le n
theorem zM {α:Type _} {l:List α} {a:α} (h:l[i]?=some a):a∈l:=List.mem_of_getElem? h
theorem zO {α:Type _} {a b:α} (h:some a=some b):a=b:=Option.some.inj h
def zH (p:Prop):Prop:=p
theorem zH.o {p:Prop} (h:zH p):p:=h
theorem zh {p:Prop} (h:p):zH p:=h
theorem zMs {α:Type _} {a b:α}:a∈[b]↔a=b:=List.mem_singleton
theorem zGs {α:Type _} {a:α} {l:List α}:l[i]?=some a↔∃ h,l[i]=a:=List.getElem?_eq_some_iff
theorem zGl {α:Type _} {a b:List α} (hn:i<a.length):(a++b)[i]?=a[i]?:=List.getElem?_append_left hn
theorem zGr {α:Type _} {a b:List α} (h:a.length≤i):(a++b)[i]?=b[i-a.length]?:=List.getElem?_append_right h
theorem zLn {α:Type _} {a b:List α}:(a++b).length=a.length+b.length:=List.length_append
theorem zMa {α:Type _} {a:α} {s t:List α}:a∈s++t↔a∈s∨a∈t:=List.mem_append
theorem zLg (n m:Nat):n<m∨n≥m:=Nat.lt_or_ge n m
theorem zGn {α:Type _} {l:List α} (h:l.length≤i):l[i]?=none:=List.getElem?_eq_none h
theorem zIn (n:Int) (h: -9223372036854775808≤n∧n≤9223372036854775807):Go.IntKind.i64.wrap n=n:=Go.IntWalk.i64_in n h
theorem zBr (B:Nat) (w:World):Below B w w:=Below.refl B w
theorem zI {k:IntKind} {q:Int}:RowKit.intOf (.int k q)=q:=rfl
theorem zN {c:Prop} {h:Decidable c} (cd:¬c) {α:Sort _} {t e:α}:ite c t e=e:=if_neg cd
theorem zP {c:Prop} {h:Decidable c} (hc:c) {α:Sort _} {t e:α}:ite c t e=t:=if_pos hc
def runeLen (r:Int):Int:=if r<0 then -1 else if r<=127 then 1 else if r<=2047 then 2 else if 55296<=r/\r<=57343 then -1 else if r<=65535 then 3 else if r<=1114111 then 4 else -1
theorem zeh (r:Int) (w:World):Calls Tryz.prog 75 #[.int .i32 r] w λe w'=>e=.returned (.int .i64 (runeLen r))/\w=w':=by
 unfold runeLen;by_cases h1:r<0
 . rw[zP h1]
   go_enter Tryz.func75,Tryz.ntmps75;go_wp2;go_ret;exact⟨rfl,rfl⟩
 rw[zN h1];by_cases h2:r<=127
 . rw[zP h2]
   go_enter Tryz.func75,Tryz.ntmps75;go_wp2;go_ret;exact⟨rfl,rfl⟩
 rw[zN h2];by_cases h3:r<=2047
 . rw[zP h3]
   go_enter Tryz.func75,Tryz.ntmps75;go_wp2;go_ret;exact⟨rfl,rfl⟩
 rw[zN h3];by_cases h4:55296<=r
 . by_cases h5:r<=57343
   . rw[zP ⟨h4,h5⟩]
     go_enter Tryz.func75,Tryz.ntmps75;go_wp2;go_ret;exact⟨rfl,rfl⟩
   rw[zN (by omega)];by_cases h6:r<=65535
   . rw[zP h6]
     go_enter Tryz.func75,Tryz.ntmps75;go_wp2;go_ret;exact⟨rfl,rfl⟩
   rw[zN h6];by_cases h7:r<=1114111
   . rw[zP h7]
     go_enter Tryz.func75,Tryz.ntmps75;go_wp2;go_ret;exact⟨rfl,rfl⟩
   rw[zN h7];go_enter Tryz.func75,Tryz.ntmps75;go_wp2;go_ret;exact⟨rfl,rfl⟩
 rw[zN (by omega),zP (by omega)]
 go_enter Tryz.func75,Tryz.ntmps75;go_wp2;go_ret;exact⟨rfl,rfl⟩
def validRune (r:Int):Bool:=decide ((0<=r/\r<55296)\/(57343<r/\r<=1114111))
theorem xQ (r:Int) (w:World):Calls Tryz.prog 85 #[.int .i32 r] w λe w'=>e=.returned (.bool (validRune r))/\w=w':=by
 by_cases h1:0<=r
 . by_cases h2:r<55296
   . have e:validRune r=true:=by unfold validRune;simp;omega
     rw[e];go_enter Tryz.func85,Tryz.ntmps85;go_wp2;go_ret;exact⟨rfl,rfl⟩
   by_cases h3:57343<r
   . by_cases h4:r<=1114111
     . have e:validRune r=true:=by unfold validRune;simp;omega
       rw[e];go_enter Tryz.func85,Tryz.ntmps85;go_wp2;go_ret;exact⟨rfl,rfl⟩
     have e:validRune r=false:=by unfold validRune;simp;omega
     rw[e];go_enter Tryz.func85,Tryz.ntmps85;go_wp2;go_ret;exact⟨rfl,rfl⟩
   have e:validRune r=false:=by unfold validRune;simp;omega
   rw[e];go_enter Tryz.func85,Tryz.ntmps85;go_wp2;go_ret;exact⟨rfl,rfl⟩
 have e:validRune r=false:=by unfold validRune;simp;omega
 rw[e];go_enter Tryz.func85,Tryz.ntmps85;go_wp2;go_ret;exact⟨rfl,rfl⟩
structure eY (P:Program) (t e:TypeId) (size bytes:Nat):Prop where
 und:P.underlying t=some (.slice e)
 info:∃ i z,P.info? e=some i/\i.zero=some z/\i.size=size/\i.bytes=bytes/\z.cells.size=size
 pos:0<size
theorem eY.of {P:Program} {z:Value} (h:P.underlying t=some (.slice e)) (hi:(P.info? e).map (λi=>(i.zero,i.size,i.bytes))=some (some z,size,bytes)) (hz:z.cells.size=size) (hp:0<size):eY P t e size bytes:=by
 obtain⟨i,h1,h2,h3,h4⟩:=info_parts hi;exact⟨h,⟨i,z,h1,h2,h3,h4,hz⟩,hp⟩
section
variable {P:Program} (w:World)
theorem qF (E:eY P t e size bytes) (ty:TypeId) (v:Value) (n:Nat) (xs:List Value) (hown:w.ownsRow 0 e size v n xs)
 (a:Addr) (m c:Nat) (qh:List Value) (hl:qh.length=m*size) (hnews:∀ j u,qh[j]?=some u->w.cell? (a.add j)=some u) (h1:∀ u∈qh,u.oneCell'=true)
 (hm:0<m) (hb:n+m<=1000000000) (hbytes:bytes<=1000):
 ∃ v' w',(Builtin.append_ #[t,t] ty #[v,.slice (some a) m c]).run P w=.ok v' w'/\w'.ownsRow 0 e size v' (n+m) (xs++qh)/\w.grownBy w' v.ownBlock/\(v'.ownBlock=v.ownBlock\/v'.ownBlock=some w.heap.size):=by
 obtain⟨ht,⟨i,z,hi,hz,rfl,rfl,DV⟩,vn⟩:=E;have Kg:(n+m)*i.bytes<=140737488355328:=by
  have:=Nat.mul_le_mul hb hbytes;omega
 have BO:n+m<=maxLen:=by unfold maxLen;omega
 have Hg:(xs++qh).length=(n+m)*i.size:=by rw[zLn,hown.1,hl,Nat.add_mul]
 have grown:∀ (old:Nat),old<n+m->
  (w.drew.alloc (.cells (xs.toArray++qh.toArray++Builtin.zeroCells z.cells (grownCap w (n+m) old e-(n+m))) e)).ownsRow 0 e i.size
   (.slice (some ⟨w.heap.size,0,none⟩) (n+m) (grownCap w (n+m) old e)) (n+m) (xs++qh):=by
  intro old ho;refine⟨Hg,.inr ⟨w.heap.size,_,_,rfl,zZ _,heap_alloc_new w.drew _,grownCap_ge w (n+m) old e,grownCap_le_maxLen w (n+m) old e BO,?_,?_⟩⟩
  . have Sz:=grownCap_ge w (n+m) old e
    simp only[Array.size_append,List.size_toArray,size_zeroCells,DV,hown.1,hl,<-Nat.add_mul];congr 1;omega
  simp only[Array.toList_append,List.append_assoc]
  rw[<-List.append_assoc,<-Hg];exact List.take_left
 rcases hown.2 with⟨rfl,rfl⟩|⟨g,cap,KO,rfl,AB,hg,cd,QY,YL,xu⟩
 . have hx:xs=[]:=List.eq_nil_of_length_eq_zero (by simpa using hown.1)
   subst hx;have hr:=run_append_nil (P:=P) w t ty e i z ht hi hz a m c qh hl hnews hm (by omega) (by simp only[Nat.zero_add] at Kg;omega);have QJ:=grown 0 (by omega);simp only[Nat.zero_add,List.nil_append,Array.empty_append] at QJ ⊢;exact⟨_,_,hr,QJ,⟨rfl,rfl,rfl,by simp,λk hk _=>heap_alloc_old w.drew _ hk⟩,.inr rfl⟩
 by_cases Ce:n+m<=cap
 . have o5:n*i.size+qh.length<=KO.size:=by rw[hl,YL,<-Nat.add_mul];exact Nat.mul_le_mul_right _ Ce
   have hr:=run_append_room (P:=P) w t ty e i ht hi g n cap KO hg a m c qh hl hnews h1 Ce o5;refine⟨_,_,hr,⟨Hg,.inr ⟨g,cap,_,rfl,AB,setRow_heap w g KO _ e _ hg,Ce,QY,?_,?_⟩⟩,⟨rfl,rfl,rfl,by simp,λk _ hk=>setRow_other w g k _ (λe=>hk (by simp[Value.ownBlock,e]))⟩,.inl rfl⟩
   . simp only[List.size_toArray,zLn,List.length_take,List.length_drop,Array.length_toList]
     omega
   rw[xu,<-Hg]
   exact List.take_left
 have G0:∀ j u,xs[j]?=some u->w.cell? ((⟨g,0,none⟩:Addr).add j)=some u:=hown.cells (g:=g) rfl
 have hr:=run_append_grow (P:=P) w t ty e i z ht hi hz ⟨g,0,none⟩ n cap xs hown.1 G0 a m c qh hl hnews (by omega) (by omega) (growslice_fits (by omega) Kg);exact⟨_,_,hr,grown cap (by omega),⟨rfl,rfl,rfl,by simp,λk hk _=>heap_alloc_old w.drew _ hk⟩,.inr rfl⟩
theorem bK {ops:Array Oper} {rest:List Oper} {o:Oper} {a:Act} {Q:Exit->Act->World->Prop} (KY:o.guard=none) (s x:Operand) 
 (ho:o.op=.call {callee:=.builtin .append,args:=#[s,x],argTypes:=#[t,t]}) (E:eY P t e size bytes)
 (v:Value) (n:Nat) (xs:List Value) (hs:a.eval s=v) (hown:w.ownsRow 0 e size v n xs)
 (ad:Addr) (m c:Nat) (qh:List Value) (hx:a.eval x=.slice (some ad) m c) (hl:qh.length=m*size) (hnews:∀ j u,qh[j]?=some u->w.cell? (ad.add j)=some u) (h1:∀ u∈qh,u.oneCell'=true)
 (hm:0<m) (hb:n+m<=1000000000) (hbytes:bytes<=1000)
 (h:∀ v' w',w'.ownsRow 0 e size v' (n+m) (xs++qh)->w.grownBy w' v.ownBlock->(v'.ownBlock=v.ownBlock\/v'.ownBlock=some w.heap.size)->wpList P ops Q rest (a.put o.dst v') w'):wpList P ops Q (o::rest) a w:=
 wpList_plain KY λK hK=>by
  obtain⟨v',w',hr,h2,h3,h4⟩:=qF (P:=P) w E o.type v n xs hown ad m c qh hl hnews h1 hm hb hbytes;unfold Oper.wp execOp;simp only[ho,resolve,invoke,builtin,Sem.run_bind,Sem.run_pure,Result.andThen_ok,List.map_toArray,List.map_cons,List.map_nil,hs,hx,hr];exact hK _ _ (h v' w' h2 h3 h4)
end
theorem cM (w:World) (c:Array Value) (t:TypeId) (b:Nat) (hb:b=w.heap.size):∀ (j:Nat) (u:Value),c.toList[j]?=some u->(w.alloc (.cells c t)).cell? ((⟨b,0,none⟩:Addr).add j)=some u:=by
 intro j u h;subst hb;have e:(⟨w.heap.size,0,none⟩:Addr).add j=⟨w.heap.size,j,none⟩:=by unfold Addr.add;split<;>simp_all
 rw[e,aB (w.alloc (.cells c t)) w.heap.size j c t (0,0) (by rw[aN,zP rfl])];simpa using h
theorem fW {v':Value} {B:Nat} (h:v'.ownBlock=v.ownBlock\/v'.ownBlock=some n) (hv:∀ g,v.ownBlock=some g->B<=g) (hn:B<=n):∀ g,v'.ownBlock=some g->B<=g:=by
 intro g hg
 rcases h with h|h
 . exact hv g (by rw[<-h];exact hg)
 rw[h] at hg;cases hg;exact hn
theorem gE {B:Nat} (h:Below B a w) (hg:w.grownBy w' v.ownBlock) (hB:B<=w.heap.size) (hv:∀ g,v.ownBlock=some g->B<=g):Below B a w':=
 h.grown hg hB hv
theorem uG {o:Obj} (hg:w.grownBy w' v.ownBlock) (h:w.heap[b]?=some o) (hv:v.ownBlock≠some b):w'.heap[b]?=some o:=
 (hg.block b (aA h) (λe=>hv e.symm)).trans h
theorem aE {g cap:Nat} (h:w.ownsRow 0 e size (.slice (some ⟨g,0,none⟩) n cap) n xs) (j:Nat) (u:Value) (hu:xs[j]?=some u):w.cell? ⟨g,j,none⟩=some u:=by
 have:=h.cells (g:=g) rfl j u hu;have e:(⟨g,0,none⟩:Addr).add j=⟨g,j,none⟩:=by unfold Addr.add;split<;>simp_all
 rwa [e] at this
theorem bD (h:w.ownsRow 0 e size v n xs):(v=.slice none 0 0/\n=0)\/∃ g cap,v=.slice (some ⟨g,0,none⟩) n cap/\n<=cap/\g<w.heap.size:=by
 rcases h.2 with h|⟨g,cap,KO,h1,_,h2,h3,_⟩
 . exact .inl h
 exact .inr ⟨g,cap,h1,h3,aA h2⟩
theorem aU (h:w.ownsRow 0 e size v n xs) (hx:∀ g,v.ownBlock=some g->w'.heap[g]?=w.heap[g]?):w'.ownsRow 0 e size v n xs:=by
 refine⟨h.1,?_⟩
 rcases h.2 with hn|⟨g,cap,KO,rfl,hb,UE,rest⟩
 . exact .inl hn
 exact .inr ⟨g,cap,KO,rfl,hb,by rw[hx g rfl];exact UE,rest⟩
theorem aZ (h:w.ownsRow 0 e size v n xs) (hb:Below w.heap.size w w'):w'.ownsRow 0 e size v n xs:=
 aU h λg hg=>hb.block g (h.lt g hg).2
theorem nL (w:World) (e:TypeId) (size:Nat):w.ownsRow 0 e size (.slice none 0 0) 0 []:=World.ownsRow_nil w 0 e size
theorem zdG (w:World) (l:List Value) (t:TypeId) (b:Nat) (hb:b=w.heap.size):∀ (j:Nat) (u:Value),l[j]?=some u->(w.alloc (.cells l.toArray t)).cell? ((⟨b,0,none⟩:Addr).add j)=some u:=cM w l.toArray t b hb
theorem dI {P:Program} {ops:Array Oper} {rest:List Oper} {o:Oper} {a:Act} {Q:Exit->Act->World->Prop} {s x:Operand} (ho:o.op=.call {callee:=.builtin .append,args:=#[s,x],argTypes:=#[t,t]}) (E:eY P t e size bytes)
 (hs:a.eval s=v) (hown:w.ownsRow 0 e size v n xs) (qh:List Value) (hb:n+1<=1000000000)
 (h:∀ v' w',w'.ownsRow 0 e size v' (n+1) (xs++qh)->w.grownBy w' v.ownBlock->(v'.ownBlock=v.ownBlock\/v'.ownBlock=some w.heap.size)->wpList P ops Q rest (a.put o.dst v') w')
 {ad:Addr} (hx:a.eval x=.slice (some ad) 1 c:=by rfl) (hl:qh.length=1*size:=by rfl) (hn:∀ j u,qh[j]?=some u->w.cell? (ad.add j)=some u:=by exact zdG _ _ _ _ (by simp)) (h1:∀ u∈qh,u.oneCell'=true:=by simp[Value.oneCell']) (KY:o.guard=none:=by rfl) (Kg:bytes<=1000:=by decide):wpList P ops Q (o::rest) a w:=
 bK w KY s x ho E v n xs hs hown ad 1 c qh hx hl hn h1 (by decide) hb Kg h
