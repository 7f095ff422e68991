/- Part of a proof. No condition. -/
import Derived.Handy
import Derived.Lib.Hide
import Derived.Deep.LoopGhost
import Derived.BigQuiet
import Derived.WalkLawsBesides
import Derived.WalkSpells
import Derived.Test.YtmfnmkccbldfpaaGreatDoorProg
set_option linter.unusedVariables false
set_option linter.unusedSimpArgs false
namespace Go.World
open Go Go.RowKit Go.Lib
structure Y3 (w:World) where
def t (w:World):Y3 w:={}
instance {w:World}:CoeOut (Y3 w) Nat:=⟨λ_=>w.heap.size⟩
structure Y4 (w:World) (o:Nat) where
def y (w:World) (o:Nat):Y4 w o:={}
instance {w:World} {o:Nat}:CoeOut (Y4 w o) Addr:=⟨λ_=>⟨w.heap.size,o,none⟩⟩
structure Y5 (w:World) where
def z (w:World):Y5 w:={}
instance {w:World}:CoeOut (Y5 w) Addr:=⟨λ_=>⟨w.heap.size,0,none⟩⟩
structure Y9 (w:World) (b:Nat) (c:Array Value) (t:TypeId) where
def h (w:World) (b:Nat) (c:Array Value) (t:TypeId):Y9 w b c t:={}
instance {w:World} {b:Nat} {c:Array Value} {t:TypeId}:CoeOut (Y9 w b c t) Prop:=⟨λ_=>w.heap[b]?=some (.cells c t)⟩
instance {w:World} {b:Nat} {c:Array Value} {t:TypeId}:CoeSort (Y9 w b c t) Prop:=⟨λ_=>w.heap[b]?=some (.cells c t)⟩
structure Y10 (w:World) (b o:Nat) (v:Value) where
def v (w:World) (b o:Nat) (v:Value):Y10 w b o v:={}
instance {w:World} {b o:Nat} {v:Value}:CoeOut (Y10 w b o v) Prop:=⟨λ_=>w.cell? ⟨b,o,none⟩=some v⟩
instance {w:World} {b o:Nat} {v:Value}:CoeSort (Y10 w b o v) Prop:=⟨λ_=>w.cell? ⟨b,o,none⟩=some v⟩
structure Y11 (w:World) (b o:Nat) (n:Int) where
def i (w:World) (b o:Nat) (n:Int):Y11 w b o n:={}
instance {w:World} {b o:Nat} {n:Int}:CoeOut (Y11 w b o n) Prop:=⟨λ_=>w.cell? ⟨b,o,none⟩=some (.int .i64 n)⟩
instance {w:World} {b o:Nat} {n:Int}:CoeSort (Y11 w b o n) Prop:=⟨λ_=>w.cell? ⟨b,o,none⟩=some (.int .i64 n)⟩
structure Y12 (w:World) (b o:Nat) where
def q (w:World) (b o:Nat):Y12 w b o:={}
instance {w:World} {b o:Nat}:CoeOut (Y12 w b o) Prop:=⟨λ_=>w.frozen? ⟨b,o,none⟩=false⟩
instance {w:World} {b o:Nat}:CoeSort (Y12 w b o) Prop:=⟨λ_=>w.frozen? ⟨b,o,none⟩=false⟩
structure Y13 (w a:World) where
def u (w a:World):Y13 w a:={}
instance {w a:World}:CoeOut (Y13 w a) Prop:=⟨λ_=>Below w.heap.size w a⟩
instance {w a:World}:CoeSort (Y13 w a) Prop:=⟨λ_=>Below w.heap.size w a⟩
structure Y14 (w:World) (e:TypeId) (s:Nat) (v:Value) (n:Nat) (l:List Value) where
def r (w:World) (e:TypeId) (s:Nat) (v:Value) (n:Nat) (l:List Value):Y14 w e s v n l:={}
instance {w:World} {e:TypeId} {s:Nat} {v:Value} {n:Nat} {l:List Value}:CoeOut (Y14 w e s v n l) Prop:=⟨λ_=>w.ownsRow 0 e s v n l⟩
instance {w:World} {e:TypeId} {s:Nat} {v:Value} {n:Nat} {l:List Value}:CoeSort (Y14 w e s v n l) Prop:=⟨λ_=>w.ownsRow 0 e s v n l⟩
structure Y15 (w a:World) (b:Nat) where
def g (w a:World) (b:Nat):Y15 w a b:={}
instance {w a:World} {b:Nat}:CoeOut (Y15 w a b) Prop:=⟨λ_=>w.grownBy a (some b)⟩
instance {w a:World} {b:Nat}:CoeSort (Y15 w a b) Prop:=⟨λ_=>w.grownBy a (some b)⟩
structure Y16 (w a:World) (b:Nat) where
def e (w a:World) (b:Nat):Y16 w a b:={}
instance {w a:World} {b:Nat}:CoeOut (Y16 w a b) Prop:=⟨λ_=>w.heap[b]?=a.heap[b]?⟩
instance {w a:World} {b:Nat}:CoeSort (Y16 w a b) Prop:=⟨λ_=>w.heap[b]?=a.heap[b]?⟩
end Go.World
namespace Nat
open Go Go.RowKit Go.Lib
structure Y7 (b:Nat) where
def a (b:Nat):Y7 b:={}
instance {b:Nat}:CoeOut (Y7 b) Addr:=⟨λ_=>⟨b,0,none⟩⟩
structure Y8 (b o:Nat) where
def p (b o:Nat):Y8 b o:={}
instance {b o:Nat}:CoeOut (Y8 b o) Addr:=⟨λ_=>⟨b,o,none⟩⟩
end Nat
namespace Go.Proofs.YtmfnmkccbldfpaaGreatDoor
open Go.RowKit Tryz
structure X (n:Nat) where
def I:X 0:={}
instance:CoeFun (X 0) (λ_=>∀{α:Type},List α->Nat):=⟨λ_=>@List.length⟩
def ι:X 1:={}
instance:CoeFun (X 1) (λ_=>Int->Value):=⟨λ_=>.int .i64⟩
def υ:X 2:={}
instance:CoeFun (X 2) (λ_=>Int->Value):=⟨λ_=>.int .u64⟩
def τ:X 3:={}
instance:CoeFun (X 3) (λ_=>Option Addr->Nat->Nat->Value):=⟨λ_=>.slice⟩
def ρ:X 4:={}
instance:CoeFun (X 4) (λ_=>Value->Ending):=⟨λ_=>.returned⟩
def Γ:X 5:={}
instance:CoeFun (X 5) (λ_=>Nat->Array Value->World->(Ending->World->Prop)->Prop):=⟨λ_=>Calls prog⟩
def χ:X 6:={}
instance:CoeFun (X 6) (λ_=>∀{α:Type},List α->Nat->α->α):=⟨λ_=>@List.getD⟩
def ς:X 7:={}
instance:CoeFun (X 7) (λ_=>World->Addr->Value->World):=⟨λ_=>World.setCell⟩
def κ:X 8:={}
instance:CoeFun (X 8) (λ_=>World->Obj->World):=⟨λ_=>World.alloc⟩
def β:X 9:={}
instance:CoeFun (X 9) (λ_=>Value->Option Nat):=⟨λ_=>Value.ownBlock⟩
def ψ:X 10:={}
instance:CoeFun (X 10) (λ_=>∀{α:Type},Nat->α->List α):=⟨λ_=>@List.replicate⟩
def φ:X 11:={}
instance:CoeFun (X 11) (λ_=>Bool->Value):=⟨λ_=>.bool⟩
def ϕ:X 12:={}
instance:CoeFun (X 12) (λ_=>Array Value->Value):=⟨λ_=>.tuple⟩
def ϑ:X 13:={}
instance:CoeFun (X 13) (λ_=>Value->Int):=⟨λ_=>RowKit.intOf⟩
def δ:X 14:={}
instance:CoeFun (X 14) (λ_=>ByteArray->Nat->Nat×Nat):=⟨λ_=>Utf8.decode⟩
def ε:X 15:={}
instance:CoeFun (X 15) (λ_=>ByteArray->Nat->Nat->ByteArray):=⟨λ_=>ByteArray.extract⟩
def γ:X 16:={}
instance:CoeFun (X 16) (λ_=>ByteArray->Value):=⟨λ_=>.string⟩
def ξ:X 17:={}
instance:CoeFun (X 17) (λ_=>Int->Value):=⟨λ_=>.int .i32⟩
def Δ:X 18:={}
instance:CoeFun (X 18) (λ_=>TypeId->Value->Value):=⟨λ_=>.iface⟩
def Φ:X 19:={}
instance:CoeFun (X 19) (λ_=>Option Addr->Value):=⟨λ_=>.pointer⟩
def ω:X 20:={}
instance:CoeSort (X 20) Type:=⟨λ_=>World⟩
instance:CoeOut (X 20) Type:=⟨λ_=>World⟩
def η:X 21:={}
instance:CoeSort (X 21) Type:=⟨λ_=>ByteArray⟩
instance:CoeOut (X 21) Type:=⟨λ_=>ByteArray⟩
def θ:X 22:={}
instance:CoeSort (X 22) Type:=⟨λ_=>List (Int×Int)⟩
instance:CoeOut (X 22) Type:=⟨λ_=>List (Int×Int)⟩
def ο:X 23:={}
instance:CoeSort (X 23) Type:=⟨λ_=>List Nat⟩
instance:CoeOut (X 23) Type:=⟨λ_=>List Nat⟩
def ζ:X 24:={}
instance:CoeSort (X 24) Type:=⟨λ_=>List Value⟩
instance:CoeOut (X 24) Type:=⟨λ_=>List Value⟩
structure Y0  where
def ν:Y0:={}
instance:CoeOut (Y0) Value:=⟨λ_=>.slice none 0 0⟩
structure Y1 (b:Nat) where
def π (b:Nat):Y1 b:={}
instance {b:Nat}:CoeOut (Y1 b) Value:=⟨λ_=>.pointer (some ⟨b,0,none⟩)⟩
structure Y2 (b n c:Nat) where
def σ (b n c:Nat):Y2 b n c:={}
instance {b n c:Nat}:CoeOut (Y2 b n c) Value:=⟨λ_=>.slice (some ⟨b,0,none⟩) n c⟩
structure Y6 (c:Array Value) (t:TypeId) where
def Ω (c:Array Value) (t:TypeId):Y6 c t:={}
instance {c:Array Value} {t:TypeId}:CoeOut (Y6 c t) Obj:=⟨λ_=>.cells c t⟩
theorem zzCm {p:Prop} (h:p:=by
 have e:validRune r=true:=by unfold validRune;simp;omega
 rw[e];go_in;go_wp2;go_ret;simp):p:=h
theorem zzBt {p:Prop} (h:p:=by
 refine⟨h.1,?_⟩
 rcases h.2 with hn|⟨g,cap,X0,rfl,hb,At,rest⟩
 . grind
 exact .inr ⟨g,cap,X0,rfl,hb,by rw[hx g rfl];exact At,rest⟩):p:=h
theorem zzBf {p:Prop} (h:p:=by
 have e:validRune r=false:=by unfold validRune;simp;omega
 rw[e];go_in;go_wp2;go_ret;simp):p:=h
theorem zzAe {p q:Prop} (k:q) (h:q->p:=by intro zz;simp only[ho,resolve,invoke,builtin,Sem.run_bind,Sem.run_pure,Result.andThen_ok,List.map_toArray,List.map_cons,List.map_nil,hs,hx,hr];exact zz):p:=h k
variable {w w' a:ω} {b n i B size bytes:Nat} {c:Array Value} {p:Prop} {t e:TypeId} {v:Value} {xs:ζ}
def Ext (w w':ω):Prop:=∀ (b:Nat) (o:Obj),w.heap[b]?=some o->w'.heap[b]?=some o
theorem aA {o:Obj} (h:w.heap[b]?=some o):b<w.t:=(Array.getElem?_eq_some_iff.1 h).1
theorem zfk (h:w.u w'):Ext w w':=λb _o hb=>(h.block b (aA hb)).trans hb
theorem aV (w:ω) (o:Obj) (k:Nat):(κ w o).heap[k]?=if k=w.t then some o else w.heap[k]?:=by
 show (w.heap.push o)[k]?=_
 grind
theorem aD (w:ω) (a:Addr) (v:Value) (k:Nat) (hk:k≠a.block):(ς w a v).e w k:=Below.heap_setCell w a v k hk
theorem aB (w:ω) (b o:Nat) (v:Value) (c:Array Value) (t:TypeId) (f:Nat×Nat) (h:w.heap[b]?=some (.cells c t f)):(ς w (b.p o) v).heap[b]?=some (.cells (c.setIfInBounds o v) t f):=by
 grind [World.setCell]
theorem bF (w:ω) (b o:Nat) (c:Array Value) (t:TypeId) (f:Nat×Nat) (h:w.heap[b]?=some (.cells c t f)):w.cell? (b.p o)=c[o]?:=by
 grind [World.cell?]
theorem bN (w:ω) (b o:Nat) (c:Array Value) (t:TypeId) (h:w.h b c t):w.q b o:=by
 simp[World.frozen?,h]
theorem aC {b c:ω} {row:Option Nat} (h:a.grownBy b row) (k:b.grownBy c row):a.grownBy c row:=
 ⟨k.os.trans h.os,k.tape.trans h.tape,k.output.trans h.output,Nat.le_trans h.size k.size,λi hi hr=>(k.block i (Nat.lt_of_lt_of_le hi h.size) hr).trans (h.block i hi hr)⟩
theorem eN (a:ω) (row:Option Nat):a.grownBy a row:=⟨rfl,rfl,rfl,Nat.le_refl _,λ_ _ _=>rfl⟩
theorem aH {b:ω} (h:a.u b) (row:Option Nat):a.grownBy b row:=⟨h.os,h.tape,h.output,h.size,λk hk _=>h.block k hk⟩
theorem zak {b:ω} {m:Nat} (h:Below m a b) (hn:n<=m):Below n a b:=h.mono hn
theorem lA {α:Type} {l:List α} {a:α}:l.toArray.setIfInBounds i a=(l.set i a).toArray:=List.setIfInBounds_toArray ..
theorem lB {α:Type} {l:List α} {a b:α}:(a::l).set 0 b=b::l:=rfl
theorem lC {α:Type} {l:List α} {a b:α}:(a::l).set (n+1) b=a::l.set n b:=rfl
theorem zo (h:p:=by omega):p:=h
theorem zd (h:p:=by decide):p:=h
theorem zg (h:p:=by grind):p:=h
theorem zs (h:p:=by simp):p:=h
theorem zr (h:p:=by rfl):p:=h
theorem zK (h:p:=by kernel_rfl):p:=h
theorem zx (h:p:=by simp;omega):p:=h
theorem zY (h:p:=by (simp[RowKit.intOf]<;>omega)):p:=h
theorem zq (o:Nat) {f:Nat×Nat} (h:w.heap[b]?=some (.cells c t f)) {v:Option Value} (e:c[o]?=v:=by (try simp only[List.getElem?_toArray,List.getElem?_cons_zero,List.getElem?_cons_succ]);rfl):w.cell? (b.p o)=v:=by
  subst e
  exact bF w b o c t f h
theorem zQ (o:Nat) {f:Nat×Nat} (h:w.heap[b]?=some (.cells c t f)):w.cell? (b.p o)=c[o]?:=bF w b o c t f h
theorem zF (o:Nat) (h:w.h b c t):w.q b o:=bN w b o c t h
theorem zt (a b:Nat) (h:a<b:=by omega):(a:Int)<(b:Int):=by omega
theorem zn (a b:Nat) (h:¬ a<b:=by omega):¬ (a:Int)<(b:Int):=by omega
theorem zu (a b:Nat) (h:a<=b:=by omega):(a:Int)<=(b:Int):=by omega
theorem zp (b:Nat) (h:0<b:=by omega):(0:Int)<(b:Int):=by omega
theorem iM :Below B w w:=Below.refl B w
theorem bR :n<=n:=Nat.le_refl n
theorem rC :0<=n:=Nat.zero_le n
theorem mF (i:Nat) (h:(i:Int)+1<=9223372036854775807:=by omega):Go.IntKind.i64.wrap ((i:Int)+1)=(i:Int)+1:=Go.IntWalk.i64_in _ (by omega)
theorem lM {n:Int} (h: -9223372036854775808<=n/\n<=9223372036854775807:=by omega):Go.IntKind.i64.wrap n=n:=Go.IntWalk.i64_in n h
theorem zLa {α:Type} {l:List α} :l.toArray[i]?=l[i]?:=List.getElem?_toArray
theorem zLb {α:Type} {a:α} {l:List α}:(a::l)[0]?=some a:=rfl
theorem zLc {α:Type} {a:α} {l:List α} :(a::l)[i+1]?=l[i]?:=rfl
theorem zLd {a c:Nat} (h:a<b) (k:b<=c):a<c:=Nat.lt_of_lt_of_le h k
theorem zLe {α:Type} {l:List α} (h:i<I l):l[i]?=some l[i]:=List.getElem?_eq_getElem h
theorem zLf {α:Type} {l:List α} {a:α}:χ l i a=l[i]?.getD a:=List.getD_eq_getElem?_getD
theorem zI {k:IntKind} {q:Int}:ϑ (.int k q)=q:=rfl
theorem zE {α:Sort _} (a:α):∃ x,x=a:=⟨a,rfl⟩
theorem zG {α:Type _} (l:List α) (i:Nat) (h:i<I l):∃ x,l[i]?=some x:=⟨_,List.getElem?_eq_getElem h⟩
theorem zW (i:Nat) (h:(i:Int)+1≤9223372036854775807):Go.IntKind.i64.wrap ((i:Int)+1)=(i:Int)+1:=Go.IntWalk.i64_in _ (by omega)
theorem zAi {a b:Prop} (h:a) (k:b):a∧b:=⟨h,k⟩
theorem zR (n:Nat):n≤n:=Nat.le_refl n
theorem zT {a c:Nat} (h:a≤b) (k:b≤c):a≤c:=Nat.le_trans h k
theorem zZ (n:Nat):0≤n:=Nat.zero_le n
theorem zM {α:Type _} {l:List α} {a:α} (h:l[i]?=some a):a∈l:=List.mem_of_getElem? h
theorem zO {α:Type _} {a b:α} (h:some a=some b):a=b:=Option.some.inj h
def zH (p:Prop):Prop:=p
theorem zH.o (h:zH p):p:=h
theorem zh (h:p):zH p:=h
theorem Θ {a b:Prop} (h:a) (k:b):zH (a∧b):=zh ⟨h,k⟩
theorem Λ {a b c:Prop} (h:a) (k:b) (l:c):zH (a∧b∧c):=zh ⟨h,k,l⟩
theorem Ψ {a b c d:Prop} (h:a) (k:b) (l:c) (m:d):zH (a∧b∧c∧d):=zh ⟨h,k,l,m⟩
theorem Ξ (w:World) (o:Obj):Below w.heap.size w (w.alloc o):=(Below.refl _ w).alloc (Nat.le_refl _) o
theorem zMs {α:Type _} {a b:α}:a∈[b]↔a=b:=List.mem_singleton
theorem zGs {α:Type _} {a:α} {l:List α}:l[i]?=some a↔∃ h,l[i]=a:=List.getElem?_eq_some_iff
theorem zGl {α:Type _} {a b:List α} (hn:i<I a):(a++b)[i]?=a[i]?:=List.getElem?_append_left hn
theorem zGr {α:Type _} {a b:List α} (h:I a≤i):(a++b)[i]?=b[i-I a]?:=List.getElem?_append_right h
theorem zLn {α:Type _} {a b:List α}:I (a++b)=I a+I b:=List.length_append
theorem zMa {α:Type _} {a:α} {s t:List α}:a∈s++t↔a∈s∨a∈t:=List.mem_append
theorem zLg (n m:Nat):n<m∨n≥m:=Nat.lt_or_ge n m
theorem zGn {α:Type _} {l:List α} (h:I l≤i):l[i]?=none:=List.getElem?_eq_none h
theorem zIn (n:Int) (h: -9223372036854775808≤n∧n≤9223372036854775807):Go.IntKind.i64.wrap n=n:=Go.IntWalk.i64_in n h
theorem zBr (B:Nat) (w:ω):Below B w w:=Below.refl B w
theorem zN {c:Prop} {h:Decidable c} (nv:¬c) {α:Sort _} {t e:α}:ite c t e=e:=if_neg nv
theorem zP {c:Prop} {h:Decidable c} (hc:c) {α:Sort _} {t e:α}:ite c t e=t:=if_pos hc
def runeLen (r:Int):Int:=if r<0 then -1 else if r<=127 then 1 else if r<=2047 then 2 else if 55296<=r/\r<=57343 then -1 else if r<=65535 then 3 else if r<=1114111 then 4 else -1
theorem zg0 (r:Int) (w:ω):Γ 110 #[ξ r] w λe w'=>e=ρ (ι (runeLen r))/\w=w':=by
 unfold runeLen;by_cases h1:r<0
 . rw[zP h1]
   go_in;go_wp2;go_ret;simp
 rw[zN h1];by_cases h2:r<=127
 . rw[zP h2]
   go_in;go_wp2;go_ret;simp
 rw[zN h2];by_cases h3:r<=2047
 . rw[zP h3]
   go_in;go_wp2;go_ret;simp
 rw[zN h3];by_cases h4:55296<=r
 . by_cases h5:r<=57343
   . rw[zP ⟨h4,h5⟩]
     go_in;go_wp2;go_ret;simp
   rw[zN zo];by_cases h6:r<=65535
   . rw[zP h6]
     go_in;go_wp2;go_ret;simp
   rw[zN h6];by_cases h7:r<=1114111
   . rw[zP h7]
     go_in;go_wp2;go_ret;simp
   rw[zN h7];go_in;go_wp2;go_ret;simp
 rw[zN zo,zP zo]
 go_in;go_wp2;go_ret;simp
def validRune (r:Int):Bool:=decide ((0<=r/\r<55296)\/(57343<r/\r<=1114111))
theorem zbb (r:Int) (w:ω):Γ 108 #[ξ r] w λe w'=>e=ρ (φ (validRune r))/\w=w':=by
 by_cases h1:0<=r
 . by_cases h2:r<55296
   . exact zzCm
   by_cases h3:57343<r
   . by_cases h4:r<=1114111
     . exact zzCm
     exact zzBf
   exact zzBf
 exact zzBf
structure eO (P:Program) (t e:TypeId) (size bytes:Nat):Prop where
 und:P.underlying t=some (.slice e)
 info:∃ i z,P.info? e=some i/\i.zero=some z/\i.size=size/\i.bytes=bytes/\z.cells.size=size
 pos:0<size
theorem eO.of {P:Program} {z:Value} (h:P.underlying t=some (.slice e)) (hi:(P.info? e).map (λi=>(i.zero,i.size,i.bytes))=some (some z,size,bytes)) (hz:z.cells.size=size) (hp:0<size):eO P t e size bytes:=by
 obtain⟨i,h1,h2,h3,h4⟩:=info_parts hi;exact⟨h,⟨i,z,h1,h2,h3,h4,hz⟩,hp⟩
section
variable {P:Program} (w:ω)
theorem qE (E:eO P t e size bytes) (ty:TypeId) (v:Value) (n:Nat) (xs:ζ) (Yb:w.r e size v n xs)
 (a:Addr) (m c:Nat) (qm:ζ) (hl:I qm=m*size) (hnews:∀ j u,qm[j]?=some u->w.cell? (a.add j)=some u) (h1:∀ u∈qm,u.oneCell'=true)
 (hm:0<m) (hb:n+m<=1000000000) (hbytes:bytes<=1000):
 ∃ v' w',(Builtin.append_ #[t,t] ty #[v,τ (some a) m c]).run P w=.ok v' w'/\w'.r e size v' (n+m) (xs++qm)/\w.grownBy w' (β v)/\(β v'=β v\/β v'=some w.heap.size):=by
 obtain⟨ht,⟨i,z,hi,hz,rfl,rfl,CC⟩,yp⟩:=E;have Jy:(n+m)*i.bytes<=140737488355328:=by
  have:=Nat.mul_le_mul hb hbytes;omega
 have F3:n+m<=maxLen:=by unfold maxLen;omega
 have Ho:I (xs++qm)=(n+m)*i.size:=by rw[zLn,Yb.1,hl,Nat.add_mul]
 have grown:∀ (old:Nat),old<n+m->
  (w.drew.alloc (Ω (xs.toArray++qm.toArray++Builtin.zeroCells z.cells (grownCap w (n+m) old e-(n+m))) e)).ownsRow 0 e i.size
   (σ w.t (n+m) (grownCap w (n+m) old e)) (n+m) (xs++qm):=by
  intro old ho;refine⟨Ho,.inr ⟨w.t,_,_,rfl,rC,heap_alloc_new w.drew _,grownCap_ge w (n+m) old e,grownCap_le_maxLen w (n+m) old e F3,?_,?_⟩⟩
  . have:=grownCap_ge w (n+m) old e
    simp only[Array.size_append,List.size_toArray,size_zeroCells,CC,Yb.1,hl,<-Nat.add_mul]
    grind
  grind
 rcases Yb.2 with⟨rfl,rfl⟩|⟨g,cap,X0,rfl,d8,hg,nv,y7,YA,XV⟩
 . have hx:xs=[]:=List.eq_nil_of_length_eq_zero zg
   subst hx;have hr:=run_append_nil (P:=P) w t ty e i z ht hi hz a m c qm hl hnews hm zo zg;have Qm:=grown 0 zo;simp only[Nat.zero_add,List.nil_append,Array.empty_append] at Qm ⊢;exact⟨_,_,hr,Qm,⟨rfl,rfl,rfl,zs,λk hk _=>heap_alloc_old w.drew _ hk⟩,.inr rfl⟩
 by_cases Yu:n+m<=cap
 . have C9:n*i.size+I qm<=X0.size:=by rw[hl,YA,<-Nat.add_mul];exact Nat.mul_le_mul_right _ Yu
   have hr:=run_append_room (P:=P) w t ty e i ht hi g n cap X0 hg a m c qm hl hnews h1 Yu C9;refine⟨_,_,hr,⟨Ho,.inr ⟨g,cap,_,rfl,d8,setRow_heap w g X0 _ e _ hg,Yu,y7,?_,?_⟩⟩,⟨rfl,rfl,rfl,zs,λk _ hk=>setRow_other w g k _ (λe=>hk (by simp[Value.ownBlock,e]))⟩,.inl rfl⟩
   all_goals grind
 have OY:∀ j u,xs[j]?=some u->w.cell? ((g.a:Addr).add j)=some u:=Yb.cells (g:=g) rfl
 have hr:=run_append_grow (P:=P) w t ty e i z ht hi hz g.a n cap xs Yb.1 OY a m c qm hl hnews zo zo (growslice_fits zo Jy);exact⟨_,_,hr,grown cap zo,⟨rfl,rfl,rfl,zs,λk hk _=>heap_alloc_old w.drew _ hk⟩,.inr rfl⟩
theorem bM {ops:Array Oper} {rest:List Oper} {o:Oper} {a:Act} {Q:Exit->Act->World->Prop} (Ko:o.guard=none) (s x:Operand) 
 (ho:o.op=.call {callee:=.builtin .append,args:=#[s,x],argTypes:=#[t,t]}) (E:eO P t e size bytes)
 (v:Value) (n:Nat) (xs:ζ) (hs:a.eval s=v) (Yb:w.r e size v n xs)
 (ad:Addr) (m c:Nat) (qm:ζ) (hx:a.eval x=τ (some ad) m c) (hl:I qm=m*size) (hnews:∀ j u,qm[j]?=some u->w.cell? (ad.add j)=some u) (h1:∀ u∈qm,u.oneCell'=true)
 (hm:0<m) (hb:n+m<=1000000000) (hbytes:bytes<=1000)
 (h:∀ v' w',w'.r e size v' (n+m) (xs++qm)->w.grownBy w' (β v)->(β v'=β v\/β v'=some w.heap.size)->wpList P ops Q rest (a.put o.dst v') w'):wpList P ops Q (o::rest) a w:=
 wpList_plain Ko λK hK=>by
  obtain⟨v',w',hr,h2,h3,h4⟩:=qE (P:=P) w E o.type v n xs Yb ad m c qm hl hnews h1 hm hb hbytes;unfold Oper.wp execOp;refine zzAe ?_;exact hK _ _ (h v' w' h2 h3 h4)
end
theorem cI (w:ω) (c:Array Value) (t:TypeId) (b:Nat) (hb:b=w.t):∀ (j:Nat) (u:Value),c.toList[j]?=some u->(κ w (Ω c t)).cell? ((b.a:Addr).add j)=some u:=by
 grind [Addr.add,bF,aV]
theorem iB {v':Value} (h:β v'=β v\/β v'=some n) (hv:∀ g,β v=some g->B<=g) (hn:B<=n):∀ g,β v'=some g->B<=g:=by
 grind
theorem iK (h:Below B a w) (hg:w.grownBy w' (β v)) (hB:B<=w.t) (hv:∀ g,β v=some g->B<=g):Below B a w':=
 h.grown hg hB hv
theorem zaq {o:Obj} (hg:w.grownBy w' (β v)) (h:w.heap[b]?=some o) (hv:β v≠some b):w'.heap[b]?=some o:=
 (hg.block b (aA h) (λe=>hv e.symm)).trans h
theorem aJ {g cap:Nat} (h:w.r e size (σ g n cap) n xs) (j:Nat) (u:Value) (hu:xs[j]?=some u):w.v g j u:=by
 have:=h.cells (g:=g) rfl j u hu
 grind [Addr.add]
theorem aY (h:w.r e size v n xs):(v=ν/\n=0)\/∃ g cap,v=σ g n cap/\n<=cap/\g<w.t:=by
 rcases h.2 with h|⟨g,cap,X0,h1,_,h2,h3,_⟩
 all_goals grind
theorem dE {g:Nat} (h:w.r e size v n xs) (hg:β v=some g):∃ cs,w.h g cs e:=by
 obtain⟨_,h2|⟨g',xq,X0,hv,_,hh,_⟩⟩:=h
 . rw[h2.1] at hg;cases hg
 rw[hv] at hg;cases hg;grind
theorem aU (h:w.r e size v n xs) (hx:∀ g,β v=some g->w'.e w g):w'.r e size v n xs:=by
 exact zzBt
theorem aN (h:w.r e size v n xs) (hb:w.u w'):w'.r e size v n xs:=
 aU h λg hg=>hb.block g (h.lt g hg).2
theorem qD (w:ω) (e:TypeId) (size:Nat):w.r e size ν 0 []:=World.ownsRow_nil w 0 e size
theorem zgk (w:ω) (l:ζ) (t:TypeId) (b:Nat) (hb:b=w.t):∀ (j:Nat) (u:Value),l[j]?=some u->(κ w (Ω l.toArray t)).cell? ((b.a:Addr).add j)=some u:=cI w l.toArray t b hb
theorem dM {P:Program} {ops:Array Oper} {rest:List Oper} {o:Oper} {a:Act} {Q:Exit->Act->World->Prop} {s x:Operand} (ho:o.op=.call {callee:=.builtin .append,args:=#[s,x],argTypes:=#[t,t]}) (E:eO P t e size bytes)
 (hs:a.eval s=v) (Yb:w.r e size v n xs) (qm:ζ) (hb:n+1<=1000000000)
 (h:∀ v' w',w'.r e size v' (n+1) (xs++qm)->w.grownBy w' (β v)->(β v'=β v\/β v'=some w.heap.size)->wpList P ops Q rest (a.put o.dst v') w')
 {ad:Addr} {c:Nat} (hx:a.eval x=τ (some ad) 1 c:=by rfl) (hl:I qm=1*size:=by rfl) (hn:∀ j u,qm[j]?=some u->w.cell? (ad.add j)=some u:=by exact zgk _ _ _ _ zs) (h1:∀ u∈qm,u.oneCell'=true:=by simp[Value.oneCell']) (Ko:o.guard=none:=by rfl) (Jy:bytes<=1000:=by decide):wpList P ops Q (o::rest) a w:=
 bM w Ko s x ho E v n xs hs Yb ad 1 c qm hx hl hn h1 zd hb Jy h
