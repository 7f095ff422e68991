/- Part of a proof. No condition. -/
import Derived.Lib.DecodeN
set_option linter.unusedVariables false
set_option linter.unusedSimpArgs false
set_option maxRecDepth 100000
namespace Go.Proofs.YtghpmhllpaheiaaGreatDoor
abbrev jU:=Nat×Nat
inductive aJ where
 | cL (l:List (Int×Int))
 | row (l:List aJ)
 | either (a b:aJ)
 | rep (t:aJ) (min:Int) (once:Bool)
def cD (s:ByteArray) (p:Nat):Except jU Int:=
 if p<s.size then
  if (Utf8.decode s p).1=65533/\(Utf8.decode s p).2=1 then .error (2,p) else .ok ((Utf8.decode s p).1:Int)
 else .ok (-1)
def nZ (s:ByteArray) (p:Nat):Except jU (Int×Nat):=
 match cD s p with
 | .error e=>.error e
 | .ok c=>.ok (c,if c= -1 then p else p+(Utf8.decode s p).2)
def cE (s:ByteArray) (p:Nat):Nat:=(s.get! p).toNat
def dig (s:ByteArray) (p:Nat):Bool:=decide (p<s.size)&&(decide (48<=cE s p)&&decide (cE s p<=57))
def dX (s:ByteArray) (p k:Nat):Except jU (Nat×Nat):=
 if dig s p then
  if dig s (p+1) then
   if dig s (p+2) then .error (4,k) else .ok (10*(cE s p-48)+(cE s (p+1)-48),p+2)
  else .ok (cE s p-48,p+1)
 else .error (4,k)
def pO (s:ByteArray) (p c:Nat):Bool:=decide (p<s.size)&&decide (cE s p=c)
def mX (b:Nat):Option Nat:=
 if 48<=b/\b<=57 then some (b-48) else if 97<=b/\b<=102 then some (b-87) else if 65<=b/\b<=70 then some (b-55) else none
def cX (s:ByteArray) (k:Nat):Nat->Nat->Nat->Nat->Except jU (Nat×Nat×Nat)
 | 0,_,_,_=>.error (0,0)
 | f+1,p,v,d=>
  if decide (p<s.size)&& !decide (cE s p=125) then
   match mX (cE s p) with
   | none=>.error (2,k)
   | some h=>if d=6 then .error (2,k) else cX s k f (p+1) (16*v+h) (d+1)
  else .ok (v,d,p)
def dZ (s:ByteArray) (p k:Nat):Except jU (Int×Nat):=
 if pO s p 123 then
  match cX s k 8 (p+1) 0 0 with
  | .error e=>.error e
  | .ok (v,d,q)=>
   if d≠0/\pO s q 125=true/\((v<55296)\/(57343<v/\v<=1114111)) then .ok (v,q+1) else .error (2,k)
 else .error (2,k)
def uE:List Nat:=[40,41,91,93,123,125,124,42,43,63,46,92,45,94]
def bP (s:ByteArray) (p:Nat):Except jU (Int×Nat):=
 match nZ s p with
 | .error e=>.error e
 | .ok (c,q)=>
  if c=92 then
   if q<s.size then
    if cE s q=110 then .ok (10,q+1)
    else if cE s q=116 then .ok (9,q+1)
    else if cE s q=114 then .ok (13,q+1)
    else if cE s q=117 then dZ s (q+1) p
    else if uE.contains (cE s q) then .ok (cE s q,q+1) else .error (2,p)
   else .error (2,p)
  else .ok (c,q)
def lJ (s:ByteArray) (p:Nat):Except jU (Int×Nat):=
 match cD s p with
 | .error e=>.error e
 | .ok c=>if c= -1\/c=91\/c=93\/c=45 then .error (2,p) else bP s p
def iB (s:ByteArray) (p:Nat):Except jU ((Int×Int)×Nat):=
 match lJ s p with
 | .error e=>.error e
 | .ok (lo,q)=>
  match cD s q with
  | .error e=>.error e
  | .ok c=>
   if c=45 then
    match lJ s (q+1) with
    | .error e=>.error e
    | .ok (hi,q2)=>if hi<lo then .error (3,p) else .ok ((lo,hi),q2)
   else .ok ((lo,lo),q)
def dM (s:ByteArray):Nat->Nat->List (Int×Int)->Except jU (List (Int×Int)×Nat)
 | 0,_,_=>.error (0,0)
 | f+1,p,l=>
  if l=[] then
   match iB s p with
   | .error e=>.error e
   | .ok (x,q)=>dM s f q (l++[x])
  else
   match cD s p with
   | .error e=>.error e
   | .ok c=>
    if c=93 then .ok (l,p) else
     match iB s p with
     | .error e=>.error e
     | .ok (x,q)=>dM s f q (l++[x])
def cutP (l:List (Int×Int)) (r:Int×Int):List (Int×Int):=
 l.flatMap λx=>
  if x.2<r.1\/x.1>r.2 then[x] else (if x.1<r.1 then[(x.1,r.1-1)] else[])++(if x.2>r.2 then[(r.2+1,x.2)] else[])
def iL (l:List (Int×Int)):List (Int×Int):=l.foldl cutP [(0,55295),(57344,1114111)]
def dH (s:ByteArray) (p k:Nat):Except jU (List (Int×Int)×Nat):=
 match cD s p with
 | .error e=>.error e
 | .ok c=>
  match dM s (s.size+2) (if c=94 then p+1 else p) [] with
  | .error e=>.error e
  | .ok (l,q)=>
   if c=94 then
    if iL l=[] then .error (3,k) else .ok (iL l,q+1)
   else .ok (l,q+1)
mutual
def bT:aJ->Int
 | .cL _=>1
 | .row l=>fD l 0
 | .either a b=>min 100 (bT a+bT b)
 | .rep t _ _=>bT t
def fD:List aJ->Int->Int
 | [],n=>n
 | t::l,n=>fD l (min 100 (n+bT t))
end
def lE (s:ByteArray) (p:Nat) (t:aJ):Except jU (aJ×Nat):=
 match dX s (p+1) p with
 | .error e=>.error e
 | .ok (lo,q)=>
  match (if pO s q 44 then (if decide (q+1<s.size)&& !decide (cE s (q+1)=125) then (dX s (q+1) p).map (λx=>((x.1:Int),x.2)) else .ok (-1,q+1)) else .ok ((lo:Int),q):Except jU (Int×Nat)) with
  | .error e=>.error e
  | .ok (hi,q2)=>
   if pO s q2 125=false\/8<lo\/8<hi\/(0<=hi/\hi<lo)\/bT t=0 then .error (4,p)
   else if hi<0 then
    if lo=0 then .ok (.rep t 0 false,q2+1) else .ok (.row (List.replicate (lo-1) t++[.rep t 1 false]),q2+1)
   else .ok (.row (List.replicate lo t++List.replicate (hi.toNat-lo) (.rep t 0 true)),q2+1)
def fQ (s:ByteArray) (p:Nat) (t:aJ):Except jU (aJ×Nat):=
 match cD s p with
 | .error e=>.error e
 | .ok c=>
  if c=42 then .ok (.rep t 0 false,p+1)
  else if c=43 then .ok (.rep t 1 false,p+1)
  else if c=63 then .ok (.rep t 0 true,p+1)
  else if c=123 then lE s p t
  else .ok (t,p)
mutual
def kH (s:ByteArray):Nat->Nat->Nat->Except jU (aJ×Nat)
 | 0,_,_=>.error (0,0)
 | f+1,deep,p=>
  match iV s f deep p [] with
  | .error e=>.error e
  | .ok (t,q)=>eI s f deep q t
def eI (s:ByteArray):Nat->Nat->Nat->aJ->Except jU (aJ×Nat)
 | 0,_,_,_=>.error (0,0)
 | f+1,deep,p,t=>
  match cD s p with
  | .error e=>.error e
  | .ok c=>
   if c=124 then
    match iV s f deep (p+1) [] with
    | .error e=>.error e
    | .ok (u,q)=>eI s f deep q (.either t u)
   else .ok (t,p)
def iV (s:ByteArray):Nat->Nat->Nat->List aJ->Except jU (aJ×Nat)
 | 0,_,_,_=>.error (0,0)
 | f+1,deep,p,l=>
  match cD s p with
  | .error e=>.error e
  | .ok c=>
   if c= -1\/c=124\/c=41 then .ok (.row l,p)
   else
    match iX s f deep p with
    | .error e=>.error e
    | .ok (t,q)=>
     match fQ s q t with
     | .error e=>.error e
     | .ok (u,q2)=>iV s f deep q2 (l++[u])
def iX (s:ByteArray):Nat->Nat->Nat->Except jU (aJ×Nat)
 | 0,_,_=>.error (0,0)
 | f+1,deep,p=>
  match cD s p with
  | .error e=>.error e
  | .ok c=>
   if c=40 then
    if deep=8 then .error (5,p) else
     match kH s f (deep+1) (p+1) with
     | .error e=>.error e
     | .ok (t,q)=>
      match cD s q with
      | .error e=>.error e
      | .ok d=>if d=41 then .ok (t,q+1) else .error (2,q)
   else if c=91 then
    match dH s (p+1) p with
    | .error e=>.error e
    | .ok (l,q)=>.ok (.cL l,q)
   else if c=46 then .ok (.cL [(0,9),(11,1114111)],p+1)
   else if c=93\/c=123\/c=125\/c=42\/c=43\/c=63 then .error (2,p)
   else
    match bP s p with
    | .error e=>.error e
    | .ok (x,q)=>.ok (.cL [(x,x)],q)
end
def fZ (s:ByteArray):Except jU aJ:=
 match kH s (4*s.size+10) 0 0 with
 | .error e=>.error e
 | .ok (t,q)=>if q<s.size then .error (2,q) else .ok t
theorem zb0 (n b0 b1 b2 b3:Nat) (h0:b0<256) (hn:0<n):
 Lib.decodeN n b0 b1 b2 b3=(65533,1)\/∃ x k,Lib.decodeN n b0 b1 b2 b3=(x,k)/\
  ((k=1/\x<128)\/(k=2/\1<n/\128<=x/\x<2048)\/(k=3/\2<n/\2048<=x/\x<65536/\(x<55296\/57344<=x))\/(k=4/\3<n/\65536<=x/\x<=1114111)):=by
 unfold Lib.decodeN;by_cases c1:b0<128
 . rw[if_pos c1];exact .inr ⟨_,_,rfl,.inl ⟨rfl,c1⟩⟩
 rw[if_neg c1];by_cases c2:b0 / 32=6/\(1<n/\b1 / 64=2)
 . rw[if_pos c2]
   split
   . exact .inr ⟨_,_,rfl,.inr (.inl ⟨rfl,c2.2.1,by omega,by omega⟩)⟩
   exact .inl rfl
 rw[if_neg c2];by_cases c3:b0 / 16=14/\(1<n/\b1 / 64=2)/\(2<n/\b2 / 64=2)
 . rw[if_pos c3]
   split
   . exact .inr ⟨_,_,rfl,.inr (.inr (.inl ⟨rfl,c3.2.2.1,by omega,by omega,by omega⟩))⟩
   exact .inl rfl
 rw[if_neg c3];by_cases c4:b0 / 8=30/\(1<n/\b1 / 64=2)/\(2<n/\b2 / 64=2)/\(3<n/\b3 / 64=2)
 . rw[if_pos c4]
   split
   . exact .inr ⟨_,_,rfl,.inr (.inr (.inr ⟨rfl,c4.2.2.2.1,by omega,by omega⟩))⟩
   exact .inl rfl
 rw[if_neg c4];exact .inl rfl
theorem jA (s:ByteArray) (p:Nat) (he:p<s.size) (h:¬ ((Utf8.decode s p).1=65533/\(Utf8.decode s p).2=1)):
 ∃ x k,Utf8.decode s p=(x,k)/\((k=1/\x<128)\/(k=2/\p+1<s.size/\128<=x/\x<2048)\/(k=3/\p+2<s.size/\2048<=x/\x<65536/\(x<55296\/57344<=x))\/(k=4/\p+3<s.size/\65536<=x/\x<=1114111)):=by
 have h0:=(s.get! p).toNat_lt
 rcases zb0 (s.size-p) (s.get! p).toNat (s.get! (p+1)).toNat (s.get! (p+2)).toNat (s.get! (p+3)).toNat h0 (by omega) with e|⟨x,k,e,hh⟩
 . rw[Lib.decode_at,e] at h
   exact absurd ⟨rfl,rfl⟩ h
 refine⟨x,k,by rw[Lib.decode_at,e],?_⟩
 rcases hh with hh|hh|hh|hh
 . exact .inl hh
 . exact .inr (.inl ⟨hh.1,by omega,hh.2.2⟩)
 . exact .inr (.inr (.inl ⟨hh.1,by omega,hh.2.2⟩))
 exact .inr (.inr (.inr ⟨hh.1,by omega,hh.2.2⟩))
end Go.Proofs.YtghpmhllpaheiaaGreatDoor
namespace Go.Proofs.YtghpmhllpaheiaaGreatDoor
abbrev aW:=Nat×Nat
def aW.add (s:aW) (n:Nat):aW:=if n<64 then (s.1|||(2^n),s.2) else (s.1,s.2|||(2^(n-64)))
def aW.has (s:aW) (n:Nat):Bool:=if n<64 then s.1.testBit n else s.2.testBit (n-64)
def aW.or (s o:aW):aW:=(s.1|||o.1,s.2|||o.2)
def aW.and (s o:aW):aW:=(s.1&&& o.1,s.2&&& o.2)
structure bY where
 to:List Nat
 place:Nat
 fin:Bool
 deriving DecidableEq
structure bA where
 kN:List bY
 cL:List (List (Int×Int))
 bE:List Nat
 deriving DecidableEq
def bA.push (s:bA) (k:bY):bA:={s with kN:=s.kN++[k]}
def nT (l:List Nat) (k:bY):bY:=⟨k.to++l,k.place,k.fin⟩
def finK (k:bY):bY:=⟨k.to,k.place,true⟩
def bA.link (s:bA) (i:Nat) (l:List Nat):bA:={s with kN:=s.kN.modify i (nT l)}
def bA.fI (s:bA) (i:Nat):bA:={s with kN:=s.kN.modify i finK}
mutual
def eD:aJ->Nat->bA->Option (Nat×bA)
 | .cL c,i,s=>
  if 64<s.cL.length then none else
   some (s.kN.length,{(((s.push ⟨[],0,false⟩).push ⟨[],s.cL.length,false⟩).link i [s.kN.length+1]) with cL:=s.cL++[c],bE:=s.bE++[s.kN.length]})
 | .row l,i,s=>mY l i s
 | .either x y,i,s=>
  match eD x s.kN.length ((((s.push ⟨[],0,false⟩).push ⟨[],0,false⟩).push ⟨[],0,false⟩).link i [s.kN.length,s.kN.length+1]) with
  | none=>none
  | some (p,s2)=>
   match eD y (s.kN.length+1) s2 with
   | none=>none
   | some (q,s3)=>some (s.kN.length+2,(s3.link p [s.kN.length+2]).link q [s.kN.length+2])
 | .rep t m once,i,s=>
  match eD t s.kN.length (((s.push ⟨[],0,false⟩).push ⟨[],0,false⟩).link i [s.kN.length]) with
  | none=>none
  | some (p,s2)=>
   let s3:=s2.link p [s.kN.length+1]
   let s4:=if once then s3 else s3.link p [s.kN.length]
   some (s.kN.length+1,if m=0 then s4.link s.kN.length [s.kN.length+1] else s4)
def mY:List aJ->Nat->bA->Option (Nat×bA)
 | [],i,s=>some (i,s)
 | t::l,i,s=>
  match eD t i s with
  | none=>none
  | some (p,s2)=>mY l p s2
end
def bC (G:List bY) (k:Nat):List Nat:=(G[k]?.map (·.to)).getD []
def aY (G:List bY) (k:Nat):Nat:=(G[k]?.map (·.place)).getD 0
def dU (G:List bY) (k:Nat):Bool:=(G[k]?.map (·.fin)).getD false
mutual
def uC (G:List bY):Nat->Nat->List Nat->Option (List Nat)
 | 0,_,_=>none
 | f+1,k,seen=>if seen.contains k then some seen else mP G f (bC G k) (seen++[k])
def mP (G:List bY):Nat->List Nat->List Nat->Option (List Nat)
 | 0,_,_=>none
 | _+1,[],seen=>some seen
 | f+1,k::r,seen=>
  match uC G f k seen with
  | none=>none
  | some s2=>mP G f r s2
end
def aO (G:List bY) (l:List Nat):aW:=l.foldl (λs k=>if 0<aY G k then s.add (aY G k) else s) (0,0)
def iR (G:List bY) (l:List Nat):Bool:=l.any (dU G)
structure gK where
 cL:List (List (Int×Int))
 rU:List Int
 fO:List aW
 deriving DecidableEq
def insU (x:Int):List Int->List Int
 | []=>[x]
 | y::l=>if x<y then x::y::l else if x=y then y::l else y::insU x l
def uW (l:List Int):List Int:=l.foldr insU []
def bX:List Int:=[0,128,2048,55296,57344,65536]
def bN (c:List (Int×Int)):List Int:=c.flatMap λr=>if r.2<1114111 then[r.1,r.2+1] else[r.1]
def eJ (cL:List (List (Int×Int))):List Int:=bX++cL.flatMap bN
def bB (cL:List (List (Int×Int))):List Int:=uW (eJ cL)
def cH (c:Int):Bool:=decide (0<=c/\c<55296)||decide (57343<c/\c<=1114111)
def eB (k:List (Int×Int)) (c:Int):Bool:=cH c&&k.any λr=>decide (r.1<=c)&&decide (c<=r.2)
def dD (c:Int):List (List (Int×Int))->Nat->aW->aW
 | [],_,s=>s
 | k::r,n,s=>dD c r (n+1) (if eB k c then s.add n else s)
def bG (cL:List (List (Int×Int))) (c:Int):aW:=dD c cL 0 (0,0)
def bI (L:gK) (s:aW):Nat->aW×Int
 | 0=>((0,0),-1)
 | n+1=>
  let p:=bI L s n
  if s.has n then (p.1.or (L.fO.getD n (0,0)),if 0<=L.rU.getD n (-1)/\(p.2<0\/L.rU.getD n (-1)<p.2) then L.rU.getD n (-1) else p.2) else p
def gM (fO:aW):List aW->List aW->List Int->Option (List aW×List Int)
 | [],sE,row=>some (sE,row)
 | m::r,sE,row=>
  let to:=fO.and m
  if to=(0,0) then gM fO r sE (row++[-1])
  else
   match sE.findIdx? (· =to) with
   | some j=>gM fO r sE (row++[(j:Int)])
   | none=>if 200<sE.length then none else gM fO r (sE++[to]) (row++[(sE.length:Int)])
structure iP where
 cU:List Int
 rU:List Int
 gO:List (List Int)
 bound:Int
 deriving DecidableEq
def bU (L:gK) (ms:List aW):Nat->List aW->List Int->List (List Int)->Option (List Int×List (List Int))
 | 0,sE,rU,gO=>if rU.length<sE.length then none else some (rU,gO)
 | f+1,sE,rU,gO=>
  if rU.length<sE.length then
   let p:=bI L (sE.getD rU.length (0,0)) L.cL.length
   match gM p.1 ms sE [] with
   | none=>none
   | some (sets2,row)=>bU L ms f sets2 (rU++[p.2]) (gO++[row])
  else some (rU,gO)
def fJ (c:Int):Int:=if c<0 then -1 else if c<128 then 1 else if c<2048 then 2 else if 55296<=c/\c<=57343 then -1 else if c<65536 then 3 else if c<=1114111 then 4 else -1
structure jI where
 state:List Int
 far:List Int
 round:Bool
 deriving DecidableEq
mutual
def iU (T:iP):Nat->Nat->jI->Option jI
 | 0,_,_=>none
 | f+1,i,b=>
  match cJ T f i 0 (T.gO.getD i []) {b with state:=b.state.set i 1} with
  | none=>none
  | some b2=>some {b2 with state:=b2.state.set i 2}
def cJ (T:iP):Nat->Nat->Nat->List Int->jI->Option jI
 | 0,_,_,_,_=>none
 | _+1,_,_,[],b=>some b
 | f+1,i,k,to::r,b=>
  if to<0 then cJ T f i (k+1) r b
  else
   let w:=fJ (T.cU.getD k 0)
   let b1:={b with far:=b.far.set i (max (b.far.getD i 0) (w-1))}
   if 0<=T.rU.getD to.toNat 0 then cJ T f i (k+1) r b1
   else if b1.state.getD to.toNat 0=1 then cJ T f i (k+1) r {b1 with round:=true}
   else
    match (if b1.state.getD to.toNat 0=0 then iU T f to.toNat b1 else some b1) with
    | none=>none
    | some b2=>cJ T f i (k+1) r {b2 with far:=b2.far.set i (max (b2.far.getD i 0) (w+b2.far.getD to.toNat 0))}
end
def bZ (T:iP) (f:Nat):Nat->Nat->Int->jI->Option (Int×jI)
 | 0,_,Hw,b=>some (Hw,b)
 | n+1,i,Hw,b=>
  if 0<i/\T.rU.getD i 0<0 then bZ T f n (i+1) Hw b
  else
   match (if b.state.getD i 0=0 then iU T f i b else some b) with
   | none=>none
   | some b2=>bZ T f n (i+1) (max Hw (b2.far.getD i 0)) b2
def zcF (f:Nat) (T:iP):Option Int:=
 match bZ T f T.gO.length 0 0 ⟨List.replicate T.gO.length 0,List.replicate T.gO.length 0,false⟩ with
 | none=>none
 | some (Hw,b)=>some (if b.round then -1 else Hw+1)
end Go.Proofs.YtghpmhllpaheiaaGreatDoor
namespace Go.Proofs.YtghpmhllpaheiaaGreatDoor
open Go.Lib (firstT accLo accHi decodeN)
variable {n b0 b1 b2 b3:Nat}
theorem rF (h:(128<=b0/\b0<194)\/245<=b0) (h0:b0<256):decodeN n b0 b1 b2 b3=(65533,1):=by
 unfold decodeN
 repeat' split
 all_goals first|rfl|(exfalso;omega)
theorem zad (h:194<=b0) (h':b0<224):decodeN n b0 b1 b2 b3=if 1<n/\b1 / 64=2 then (b0%32*64+b1%64,2) else (65533,1):=by
 unfold decodeN
 repeat' split
 all_goals first|rfl|(exfalso;omega)
theorem zae (h:224<=b0) (h':b0<240):decodeN n b0 b1 b2 b3=
 if 2<n/\b1 / 64=2/\b2 / 64=2/\(b0=224->160<=b1)/\(b0=237->b1<160) then (b0%16*4096+b1%64*64+b2%64,3) else (65533,1):=by
 unfold decodeN
 repeat' split
 all_goals first|rfl|(exfalso;omega)
theorem zaf (h:240<=b0) (h':b0<245):decodeN n b0 b1 b2 b3=
 if 3<n/\b1 / 64=2/\b2 / 64=2/\b3 / 64=2/\(b0=240->144<=b1)/\(b0=244->b1<144) then (b0%8*262144+b1%64*4096+b2%64*64+b3%64,4) else (65533,1):=by
 unfold decodeN
 repeat' split
 all_goals first|rfl|(exfalso;omega)
end Go.Proofs.YtghpmhllpaheiaaGreatDoor
namespace Go.Proofs.YtghpmhllpaheiaaGreatDoor
open Go.Lib (firstT accLo accHi decodeN)
theorem mT (s:ByteArray) (p:Nat):cE s p<256:=(s.get! p).toNat_lt
theorem rG (s:ByteArray) (p:Nat):Utf8.decode s p=decodeN (s.size-p) (cE s p) (cE s (p+1)) (cE s (p+2)) (cE s (p+3)):=Lib.decode_at s p
def rP (w:Nat):Nat:=if w=2 then 128 else if w=3 then 2048 else 65536
structure WfT (T:iP) (R:Nat):Prop where
 rise:T.cU.Pairwise (· < ·)
 head:T.cU.head?=some 0
 top:∀ c∈T.cU,c<=1114111
 some':0<T.gO.length
 rules:T.rU.length=T.gO.length
 rows:∀ r∈T.gO,r.length=T.cU.length
 cells:∀ r∈T.gO,∀ x∈r,-1<=x/\x<T.gO.length
 ruleR:∀ x∈T.rU,-1<=x/\x<R
end Go.Proofs.YtghpmhllpaheiaaGreatDoor
namespace Go.Proofs.YtghpmhllpaheiaaGreatDoor
open Go.Lib (firstT accLo accHi decodeN)
