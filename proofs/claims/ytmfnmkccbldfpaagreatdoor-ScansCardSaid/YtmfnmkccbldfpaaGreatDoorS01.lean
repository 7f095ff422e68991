/- Part of a proof. No condition. -/
import Derived.Lib.DecodeN
set_option linter.unusedVariables false
set_option linter.unusedSimpArgs false
set_option maxRecDepth 100000
namespace Go.Proofs.YtmfnmkccbldfpaaGreatDoor
theorem zzDD {p:Prop} (h:p:=by
 unfold bL;congr 1;simp only[ByteArray.get!]
 grind [ByteArray.data_extract]):p:=h
abbrev mP:=Nat×Nat
inductive aL where
 | cL (l:List (Int×Int))
 | row (l:List aL)
 | either (a b:aL)
 | rep (t:aL) (min:Int) (once:Bool)
def cQ (s:ByteArray) (p:Nat):Except mP Int:=
 if p<s.size then
  if (Utf8.decode s p).1=65533/\(Utf8.decode s p).2=1 then .error (2,p) else .ok ((Utf8.decode s p).1:Int)
 else .ok (-1)
def qW (s:ByteArray) (p:Nat):Except mP (Int×Nat):=
 match cQ s p with
 | .error e=>.error e
 | .ok c=>.ok (c,if c= -1 then p else p+(Utf8.decode s p).2)
def bL (s:ByteArray) (p:Nat):Nat:=(s.get! p).toNat
def dig (s:ByteArray) (p:Nat):Bool:=decide (p<s.size)&&(decide (48<=bL s p)&&decide (bL s p<=57))
def eV (s:ByteArray) (p k:Nat):Except mP (Nat×Nat):=
 if dig s p then
  if dig s (p+1) then
   if dig s (p+2) then .error (4,k) else .ok (10*(bL s p-48)+(bL s (p+1)-48),p+2)
  else .ok (bL s p-48,p+1)
 else .error (4,k)
def uZ (s:ByteArray) (p c:Nat):Bool:=decide (p<s.size)&&decide (bL s p=c)
def pQ (b:Nat):Option Nat:=
 if 48<=b/\b<=57 then some (b-48) else if 97<=b/\b<=102 then some (b-87) else if 65<=b/\b<=70 then some (b-55) else none
def dR (s:ByteArray) (k:Nat):Nat->Nat->Nat->Nat->Except mP (Nat×Nat×Nat)
 | 0,_,_,_=>.error (0,0)
 | f+1,p,v,d=>
  if decide (p<s.size)&& !decide (bL s p=125) then
   match pQ (bL s p) with
   | none=>.error (2,k)
   | some h=>if d=6 then .error (2,k) else dR s k f (p+1) (16*v+h) (d+1)
  else .ok (v,d,p)
def eY (s:ByteArray) (p k:Nat):Except mP (Int×Nat):=
 if uZ s p 123 then
  match dR s k 8 (p+1) 0 0 with
  | .error e=>.error e
  | .ok (v,d,q)=>
   if d≠0/\uZ s q 125=true/\((v<55296)\/(57343<v/\v<=1114111)) then .ok (v,q+1) else .error (2,k)
 else .error (2,k)
def escs:List Nat:=[40,41,91,93,123,125,124,42,43,63,46,92,45,94]
def cD (s:ByteArray) (p:Nat):Except mP (Int×Nat):=
 match qW s p with
 | .error e=>.error e
 | .ok (c,q)=>
  if c=92 then
   if q<s.size then
    if bL s q=110 then .ok (10,q+1)
    else if bL s q=116 then .ok (9,q+1)
    else if bL s q=114 then .ok (13,q+1)
    else if bL s q=117 then eY s (q+1) p
    else if escs.contains (bL s q) then .ok (bL s q,q+1) else .error (2,p)
   else .error (2,p)
  else .ok (c,q)
def oX (s:ByteArray) (p:Nat):Except mP (Int×Nat):=
 match cQ s p with
 | .error e=>.error e
 | .ok c=>if c= -1\/c=91\/c=93\/c=45 then .error (2,p) else cD s p
def kV (s:ByteArray) (p:Nat):Except mP ((Int×Int)×Nat):=
 match oX s p with
 | .error e=>.error e
 | .ok (lo,q)=>
  match cQ s q with
  | .error e=>.error e
  | .ok c=>
   if c=45 then
    match oX s (q+1) with
    | .error e=>.error e
    | .ok (hi,q2)=>if hi<lo then .error (3,p) else .ok ((lo,hi),q2)
   else .ok ((lo,lo),q)
def eH (s:ByteArray):Nat->Nat->List (Int×Int)->Except mP (List (Int×Int)×Nat)
 | 0,_,_=>.error (0,0)
 | f+1,p,l=>
  if l=[] then
   match kV s p with
   | .error e=>.error e
   | .ok (x,q)=>eH s f q (l++[x])
  else
   match cQ s p with
   | .error e=>.error e
   | .ok c=>
    if c=93 then .ok (l,p) else
     match kV s p with
     | .error e=>.error e
     | .ok (x,q)=>eH s f q (l++[x])
def cutP (l:List (Int×Int)) (r:Int×Int):List (Int×Int):=
 l.flatMap λx=>
  if x.2<r.1\/x.1>r.2 then[x] else (if x.1<r.1 then[(x.1,r.1-1)] else[])++(if x.2>r.2 then[(r.2+1,x.2)] else[])
def jR (l:List (Int×Int)):List (Int×Int):=l.foldl cutP [(0,55295),(57344,1114111)]
def dN (s:ByteArray) (p k:Nat):Except mP (List (Int×Int)×Nat):=
 match cQ s p with
 | .error e=>.error e
 | .ok c=>
  match eH s (s.size+2) (if c=94 then p+1 else p) [] with
  | .error e=>.error e
  | .ok (l,q)=>
   if c=94 then
    if jR l=[] then .error (3,k) else .ok (jR l,q+1)
   else .ok (l,q+1)
mutual
def cE:aL->Int
 | .cL _=>1
 | .row l=>iX l 0
 | .either a b=>min 100 (cE a+cE b)
 | .rep t _ _=>cE t
def iX:List aL->Int->Int
 | [],n=>n
 | t::l,n=>iX l (min 100 (n+cE t))
end
def nX (s:ByteArray) (p:Nat) (t:aL):Except mP (aL×Nat):=
 match eV s (p+1) p with
 | .error e=>.error e
 | .ok (lo,q)=>
  match (if uZ s q 44 then (if decide (q+1<s.size)&& !decide (bL s (q+1)=125) then (eV s (q+1) p).map (λx=>((x.1:Int),x.2)) else .ok (-1,q+1)) else .ok ((lo:Int),q):Except mP (Int×Nat)) with
  | .error e=>.error e
  | .ok (hi,q2)=>
   if uZ s q2 125=false\/8<lo\/8<hi\/(0<=hi/\hi<lo)\/cE t=0 then .error (4,p)
   else if hi<0 then
    if lo=0 then .ok (.rep t 0 false,q2+1) else .ok (.row (List.replicate (lo-1) t++[.rep t 1 false]),q2+1)
   else .ok (.row (List.replicate lo t++List.replicate (hi.toNat-lo) (.rep t 0 true)),q2+1)
def gY (s:ByteArray) (p:Nat) (t:aL):Except mP (aL×Nat):=
 match cQ s p with
 | .error e=>.error e
 | .ok c=>
  if c=42 then .ok (.rep t 0 false,p+1)
  else if c=43 then .ok (.rep t 1 false,p+1)
  else if c=63 then .ok (.rep t 0 true,p+1)
  else if c=123 then nX s p t
  else .ok (t,p)
mutual
def nI (s:ByteArray):Nat->Nat->Nat->Except mP (aL×Nat)
 | 0,_,_=>.error (0,0)
 | f+1,deep,p=>
  match kM s f deep p [] with
  | .error e=>.error e
  | .ok (t,q)=>fT s f deep q t
def fT (s:ByteArray):Nat->Nat->Nat->aL->Except mP (aL×Nat)
 | 0,_,_,_=>.error (0,0)
 | f+1,deep,p,t=>
  match cQ s p with
  | .error e=>.error e
  | .ok c=>
   if c=124 then
    match kM s f deep (p+1) [] with
    | .error e=>.error e
    | .ok (u,q)=>fT s f deep q (.either t u)
   else .ok (t,p)
def kM (s:ByteArray):Nat->Nat->Nat->List aL->Except mP (aL×Nat)
 | 0,_,_,_=>.error (0,0)
 | f+1,deep,p,l=>
  match cQ s p with
  | .error e=>.error e
  | .ok c=>
   if c= -1\/c=124\/c=41 then .ok (.row l,p)
   else
    match kT s f deep p with
    | .error e=>.error e
    | .ok (t,q)=>
     match gY s q t with
     | .error e=>.error e
     | .ok (u,q2)=>kM s f deep q2 (l++[u])
def kT (s:ByteArray):Nat->Nat->Nat->Except mP (aL×Nat)
 | 0,_,_=>.error (0,0)
 | f+1,deep,p=>
  match cQ s p with
  | .error e=>.error e
  | .ok c=>
   if c=40 then
    if deep=8 then .error (5,p) else
     match nI s f (deep+1) (p+1) with
     | .error e=>.error e
     | .ok (t,q)=>
      match cQ s q with
      | .error e=>.error e
      | .ok d=>if d=41 then .ok (t,q+1) else .error (2,q)
   else if c=91 then
    match dN s (p+1) p with
    | .error e=>.error e
    | .ok (l,q)=>.ok (.cL l,q)
   else if c=46 then .ok (.cL [(0,9),(11,1114111)],p+1)
   else if c=93\/c=123\/c=125\/c=42\/c=43\/c=63 then .error (2,p)
   else
    match cD s p with
    | .error e=>.error e
    | .ok (x,q)=>.ok (.cL [(x,x)],q)
end
def iE (s:ByteArray):Except mP aL:=
 match nI s (4*s.size+10) 0 0 with
 | .error e=>.error e
 | .ok (t,q)=>if q<s.size then .error (2,q) else .ok t
theorem zd8 (n b0 b1 b2 b3:Nat) (h0:b0<256) (hn:0<n):
 Lib.decodeN n b0 b1 b2 b3=(65533,1)\/∃ x k,Lib.decodeN n b0 b1 b2 b3=(x,k)/\
  ((k=1/\x<128)\/(k=2/\1<n/\128<=x/\x<2048)\/(k=3/\2<n/\2048<=x/\x<65536/\(x<55296\/57344<=x))\/(k=4/\3<n/\65536<=x/\x<=1114111)):=by
 grind [Lib.decodeN]
theorem iL (s:ByteArray) (p:Nat) (he:p<s.size) (h:¬ ((Utf8.decode s p).1=65533/\(Utf8.decode s p).2=1)):
 ∃ x k,Utf8.decode s p=(x,k)/\((k=1/\x<128)\/(k=2/\p+1<s.size/\128<=x/\x<2048)\/(k=3/\p+2<s.size/\2048<=x/\x<65536/\(x<55296\/57344<=x))\/(k=4/\p+3<s.size/\65536<=x/\x<=1114111)):=by
 have:=(s.get! p).toNat_lt
 grind [zd8,Lib.decode_at]
end Go.Proofs.YtmfnmkccbldfpaaGreatDoor
namespace Go.Proofs.YtmfnmkccbldfpaaGreatDoor
abbrev aZ:=Nat×Nat
def aZ.add (s:aZ) (n:Nat):aZ:=if n<64 then (s.1|||(2^n),s.2) else (s.1,s.2|||(2^(n-64)))
def aZ.has (s:aZ) (n:Nat):Bool:=if n<64 then s.1.testBit n else s.2.testBit (n-64)
def aZ.or (s o:aZ):aZ:=(s.1|||o.1,s.2|||o.2)
def aZ.and (s o:aZ):aZ:=(s.1&&& o.1,s.2&&& o.2)
structure cK where
 to:List Nat
 place:Nat
 fin:Bool
 deriving DecidableEq
structure bC where
 kN:List cK
 cL:List (List (Int×Int))
 bE:List Nat
 deriving DecidableEq
def bC.push (s:bC) (k:cK):bC:={s with kN:=s.kN++[k]}
def qO (l:List Nat) (k:cK):cK:=⟨k.to++l,k.place,k.fin⟩
def finK (k:cK):cK:=⟨k.to,k.place,true⟩
def bC.link (s:bC) (i:Nat) (l:List Nat):bC:={s with kN:=s.kN.modify i (qO l)}
def bC.fI (s:bC) (i:Nat):bC:={s with kN:=s.kN.modify i finK}
mutual
def fE:aL->Nat->bC->Option (Nat×bC)
 | .cL c,i,s=>
  if 64<s.cL.length then none else
   some (s.kN.length,{(((s.push ⟨[],0,false⟩).push ⟨[],s.cL.length,false⟩).link i [s.kN.length+1]) with cL:=s.cL++[c],bE:=s.bE++[s.kN.length]})
 | .row l,i,s=>qL l i s
 | .either x y,i,s=>
  match fE x s.kN.length ((((s.push ⟨[],0,false⟩).push ⟨[],0,false⟩).push ⟨[],0,false⟩).link i [s.kN.length,s.kN.length+1]) with
  | none=>none
  | some (p,s2)=>
   match fE y (s.kN.length+1) s2 with
   | none=>none
   | some (q,s3)=>some (s.kN.length+2,(s3.link p [s.kN.length+2]).link q [s.kN.length+2])
 | .rep t m once,i,s=>
  match fE t s.kN.length (((s.push ⟨[],0,false⟩).push ⟨[],0,false⟩).link i [s.kN.length]) with
  | none=>none
  | some (p,s2)=>
   let s3:=s2.link p [s.kN.length+1]
   let s4:=if once then s3 else s3.link p [s.kN.length]
   some (s.kN.length+1,if m=0 then s4.link s.kN.length [s.kN.length+1] else s4)
def qL:List aL->Nat->bC->Option (Nat×bC)
 | [],i,s=>some (i,s)
 | t::l,i,s=>
  match fE t i s with
  | none=>none
  | some (p,s2)=>qL l p s2
end
def bD (G:List cK) (k:Nat):List Nat:=(G[k]?.map (·.to)).getD []
def aX (G:List cK) (k:Nat):Nat:=(G[k]?.map (·.place)).getD 0
def eM (G:List cK) (k:Nat):Bool:=(G[k]?.map (·.fin)).getD false
mutual
def dfs (G:List cK):Nat->Nat->List Nat->Option (List Nat)
 | 0,_,_=>none
 | f+1,k,seen=>if seen.contains k then some seen else pI G f (bD G k) (seen++[k])
def pI (G:List cK):Nat->List Nat->List Nat->Option (List Nat)
 | 0,_,_=>none
 | _+1,[],seen=>some seen
 | f+1,k::r,seen=>
  match dfs G f k seen with
  | none=>none
  | some s2=>pI G f r s2
end
def aO (G:List cK) (l:List Nat):aZ:=l.foldl (λs k=>if 0<aX G k then s.add (aX G k) else s) (0,0)
def jZ (G:List cK) (l:List Nat):Bool:=l.any (eM G)
structure iT where
 cL:List (List (Int×Int))
 rU:List Int
 fO:List aZ
 deriving DecidableEq
def insU (x:Int):List Int->List Int
 | []=>[x]
 | y::l=>if x<y then x::y::l else if x=y then y::l else y::insU x l
def zf6 (l:List Int):List Int:=l.foldr insU []
def cJ:List Int:=[0,128,2048,55296,57344,65536]
def bX (c:List (Int×Int)):List Int:=c.flatMap λr=>if r.2<1114111 then[r.1,r.2+1] else[r.1]
def fJ (cL:List (List (Int×Int))):List Int:=cJ++cL.flatMap bX
def bG (cL:List (List (Int×Int))):List Int:=zf6 (fJ cL)
def cW (c:Int):Bool:=decide (0<=c/\c<55296)||decide (57343<c/\c<=1114111)
def fZ (k:List (Int×Int)) (c:Int):Bool:=cW c&&k.any λr=>decide (r.1<=c)&&decide (c<=r.2)
def dQ (c:Int):List (List (Int×Int))->Nat->aZ->aZ
 | [],_,s=>s
 | k::r,n,s=>dQ c r (n+1) (if fZ k c then s.add n else s)
def bP (cL:List (List (Int×Int))) (c:Int):aZ:=dQ c cL 0 (0,0)
def bU (L:iT) (s:aZ):Nat->aZ×Int
 | 0=>((0,0),-1)
 | n+1=>
  let p:=bU L s n
  if s.has n then (p.1.or (L.fO.getD n (0,0)),if 0<=L.rU.getD n (-1)/\(p.2<0\/L.rU.getD n (-1)<p.2) then L.rU.getD n (-1) else p.2) else p
def kG (fO:aZ):List aZ->List aZ->List Int->Option (List aZ×List Int)
 | [],sE,row=>some (sE,row)
 | m::r,sE,row=>
  let to:=fO.and m
  if to=(0,0) then kG fO r sE (row++[-1])
  else
   match sE.findIdx? (· =to) with
   | some j=>kG fO r sE (row++[(j:Int)])
   | none=>if 200<sE.length then none else kG fO r (sE++[to]) (row++[(sE.length:Int)])
structure dX where
 cU:List Int
 rU:List Int
 gO:List (List Int)
 bound:Int
 deriving DecidableEq
def cO (L:iT) (ms:List aZ):Nat->List aZ->List Int->List (List Int)->Option (List Int×List (List Int))
 | 0,sE,rU,gO=>if rU.length<sE.length then none else some (rU,gO)
 | f+1,sE,rU,gO=>
  if rU.length<sE.length then
   let p:=bU L (sE.getD rU.length (0,0)) L.cL.length
   match kG p.1 ms sE [] with
   | none=>none
   | some (sets2,row)=>cO L ms f sets2 (rU++[p.2]) (gO++[row])
  else some (rU,gO)
def iH (c:Int):Int:=if c<0 then -1 else if c<128 then 1 else if c<2048 then 2 else if 55296<=c/\c<=57343 then -1 else if c<65536 then 3 else if c<=1114111 then 4 else -1
structure rF where
 state:List Int
 far:List Int
 round:Bool
 deriving DecidableEq
mutual
def sM (T:dX):Nat->Nat->rF->Option rF
 | 0,_,_=>none
 | f+1,i,b=>
  match gX T f i 0 (T.gO.getD i []) {b with state:=b.state.set i 1} with
  | none=>none
  | some b2=>some {b2 with state:=b2.state.set i 2}
def gX (T:dX):Nat->Nat->Nat->List Int->rF->Option rF
 | 0,_,_,_,_=>none
 | _+1,_,_,[],b=>some b
 | f+1,i,k,to::r,b=>
  if to<0 then gX T f i (k+1) r b
  else
   let w:=iH (T.cU.getD k 0)
   let b1:={b with far:=b.far.set i (max (b.far.getD i 0) (w-1))}
   if 0<=T.rU.getD to.toNat 0 then gX T f i (k+1) r b1
   else if b1.state.getD to.toNat 0=1 then gX T f i (k+1) r {b1 with round:=true}
   else
    match (if b1.state.getD to.toNat 0=0 then sM T f to.toNat b1 else some b1) with
    | none=>none
    | some b2=>gX T f i (k+1) r {b2 with far:=b2.far.set i (max (b2.far.getD i 0) (w+b2.far.getD to.toNat 0))}
end
def eU (T:dX) (f:Nat):Nat->Nat->Int->rF->Option (Int×rF)
 | 0,_,Qe,b=>some (Qe,b)
 | n+1,i,Qe,b=>
  if 0<i/\T.rU.getD i 0<0 then eU T f n (i+1) Qe b
  else
   match (if b.state.getD i 0=0 then sM T f i b else some b) with
   | none=>none
   | some b2=>eU T f n (i+1) (max Qe (b2.far.getD i 0)) b2
end Go.Proofs.YtmfnmkccbldfpaaGreatDoor
namespace Go.Proofs.YtmfnmkccbldfpaaGreatDoor
open Go.Lib (firstT accLo accHi decodeN)
variable {n b0 b1 b2 b3:Nat}
def fG (n b0 b1 b2:Nat):Bool:=
 decide (0<n)&&(decide (firstT b0%8<=n)||((decide (1<n)&&(decide (b1<accLo (firstT b0 / 16))||decide (accHi (firstT b0 / 16)<b1)))||(decide (2<n)&&(decide (b2<128)||decide (191<b2)))))
def fY (s:ByteArray) (p:Nat):Bool:=fG (s.size-p) (bL s p) (bL s (p+1)) (bL s (p+2))
theorem zcg {n' c1 c2:Nat} (h:fG n b0 b1 b2=true) (hn:n<=n') (e1:1<n->c1=b1) (e2:2<n->c2=b2):fG n' b0 c1 c2=true:=by
 grind [fG]
theorem jF (b:Nat) (h:b<256):(b<128/\firstT b=240)\/(128<=b/\b<194/\firstT b=241)\/(194<=b/\b<224/\firstT b=2)\/(b=224/\firstT b=19)\/(225<=b/\b<240/\b≠237/\firstT b=3)\/(b=237/\firstT b=35)\/
 (b=240/\firstT b=52)\/(241<=b/\b<244/\firstT b=4)\/(b=244/\firstT b=68)\/(245<=b/\firstT b=241):=by
 unfold firstT
 repeat' split
 all_goals omega
theorem pN (h:(128<=b0/\b0<194)\/245<=b0) (h0:b0<256):decodeN n b0 b1 b2 b3=(65533,1):=by
 grind [decodeN]
theorem oU (h:194<=b0) (h':b0<224):decodeN n b0 b1 b2 b3=if 1<n/\b1 / 64=2 then (b0%32*64+b1%64,2) else (65533,1):=by
 grind [decodeN]
theorem oV (h:224<=b0) (h':b0<240):decodeN n b0 b1 b2 b3=
 if 2<n/\b1 / 64=2/\b2 / 64=2/\(b0=224->160<=b1)/\(b0=237->b1<160) then (b0%16*4096+b1%64*64+b2%64,3) else (65533,1):=by
 grind [decodeN]
theorem oW (h:240<=b0) (h':b0<245):decodeN n b0 b1 b2 b3=
 if 3<n/\b1 / 64=2/\b2 / 64=2/\b3 / 64=2/\(b0=240->144<=b1)/\(b0=244->b1<144) then (b0%8*262144+b1%64*4096+b2%64*64+b3%64,4) else (65533,1):=by
 grind [decodeN]
theorem xO (h:194<=b0) (h':b0<224) (Hk:b1<256):fG n b0 b1 b2=decide (2<=n):=by
 grind [firstT,fG]
theorem xP (h:224<=b0) (h':b0<240) (Hk:b1<256):fG n b0 b1 b2=true↔3<=n\/(2<=n/\¬ (b1 / 64=2/\(b0=224->160<=b1)/\(b0=237->b1<160))):=by
 rcases jF b0 (by omega) with h|h|h|h|h|h|h|h|h|h<;>try omega
 all_goals grind [fG,accLo,accHi]
theorem xQ (h:240<=b0) (h':b0<245) (Hk:b1<256):fG n b0 b1 b2=true↔4<=n\/(2<=n/\¬ (b1 / 64=2/\(b0=240->144<=b1)/\(b0=244->b1<144)))\/(3<=n/\¬ b2 / 64=2):=by
 rcases jF b0 (by omega) with h|h|h|h|h|h|h|h|h|h<;>try omega
 . grind [fG,accLo,accHi]
 . grind [fG,accLo,accHi]
 simp only[fG,h.2,Bool.and_eq_true,Bool.or_eq_true,decide_eq_true_eq,accLo,accHi]
 grind
theorem zds (h:b0<194\/245<=b0) (h0:b0<256) (hn:0<n):fG n b0 b1 b2=true:=by
 rcases jF b0 h0 with h|h|h|h|h|h|h|h|h|h<;>try omega
 all_goals grind [fG]
theorem zgq {n' c1 c2 c3:Nat} (h0:b0<256) (Hk:b1<256) (h:fG n b0 b1 b2=true) (hn:n<=n') (e1:1<n->c1=b1) (e2:2<n->c2=b2) (e3:3<n->c3=b3):
 decodeN n' b0 c1 c2 c3=decodeN n b0 b1 b2 b3:=by
 by_cases g1:b0<128
 all_goals grind [decodeN,pN,xO,oU,xP,oV,xQ,oW]
end Go.Proofs.YtmfnmkccbldfpaaGreatDoor
namespace Go.Proofs.YtmfnmkccbldfpaaGreatDoor
open Go.Lib (firstT accLo accHi decodeN)
variable {set m p:Nat} {s:ByteArray}
theorem eB (s:ByteArray) (p:Nat):bL s p<256:=(s.get! p).toNat_lt
theorem iV (s:ByteArray) (m i:Nat) (hm:m<=s.size) (hi:i<m):bL (s.extract 0 m) i=bL s i:=by
 exact zzDD
theorem fS (s:ByteArray) (m:Nat) (hm:m<=s.size):(s.extract 0 m).size=m:=by simp;omega
theorem lU (s:ByteArray) (p:Nat):Utf8.decode s p=decodeN (s.size-p) (bL s p) (bL s (p+1)) (bL s (p+2)) (bL s (p+3)):=Lib.decode_at s p
def nL (cU:List Int) (c:Int):Nat:=cU.countP (λx=>decide (x<=c))-1
def fQ (T:dX) (set:Nat) (c:Int):Int:=(T.gO.getD set []).getD (nL T.cU c) (-1)
structure vD where
 set:Nat
 alive:Nat
 long:Nat
 rU:Int
def dC (T:dX) (s:ByteArray) (set p:Nat):Bool:=
 decide (p<s.size)&&(fY s p&&(!decide (Utf8.decode s p=(65533,1))&&decide (0<=fQ T set (Utf8.decode s p).1)))
def nB (T:dX) (s:ByteArray) (x:vD):vD:=
 if 0<=T.rU.getD (fQ T x.set (Utf8.decode s x.alive).1).toNat (-1) then
  ⟨(fQ T x.set (Utf8.decode s x.alive).1).toNat,x.alive+(Utf8.decode s x.alive).2,x.alive+(Utf8.decode s x.alive).2,T.rU.getD (fQ T x.set (Utf8.decode s x.alive).1).toNat (-1)⟩
 else⟨(fQ T x.set (Utf8.decode s x.alive).1).toNat,x.alive+(Utf8.decode s x.alive).2,x.long,x.rU⟩
def dK (T:dX) (s:ByteArray):Nat->vD->vD
 | 0,x=>x
 | f+1,x=>if dC T s x.set x.alive=true then dK T s f (nB T s x) else x
def zdc (T:dX) (set:Nat) (lo hi:Int) (k:Nat):Bool:=
 decide (0<=(T.gO.getD set []).getD k (-1))&&decide (max lo (T.cU.getD k 0)<=min hi (if k+1<T.cU.length then T.cU.getD (k+1) 0-1 else 1114111))
def hitT (T:dX) (set:Nat) (lo hi:Int):Bool:=(List.range (T.gO.getD set []).length).any (zdc T set lo hi)
def eX (b:Nat):Nat:=if 240<=b then 4 else if 224<=b then 3 else 2
def fH (w:Nat):Nat:=if w=2 then 128 else if w=3 then 2048 else 65536
def iP (n b0 b1 b2:Nat):Nat:=
 if n=1 then b0%2^(7-eX b0) else if n=2 then b0%2^(7-eX b0)*64+b1%64 else (b0%2^(7-eX b0)*64+b1%64)*64+b2%64
def mH (T:dX) (set n b0 b1 b2:Nat):Bool:=
 hitT T set (max ((iP n b0 b1 b2*64^(eX b0-n):Nat):Int) (fH (eX b0))) (((iP n b0 b1 b2+1)*64^(eX b0-n):Nat)-1)
def gK (T:dX) (set n m b0 b1 b2:Nat):Bool:=decide (n<=m)&&(!fG n b0 b1 b2&&mH T set n b0 b1 b2)
def lZ (T:dX) (set m b0 b1 b2:Nat):Nat:=
 if gK T set 1 m b0 b1 b2=true then (if gK T set 2 m b0 b1 b2=true then (if gK T set 3 m b0 b1 b2=true then 3 else 2) else 1) else 0
def qT (T:dX) (s:ByteArray) (set p:Nat):Nat:=lZ T set (s.size-p) (bL s p) (bL s (p+1)) (bL s (p+2))
structure yV (T:dX) (R:Nat):Prop where
 rise:T.cU.Pairwise (· < ·)
 head:T.cU.head?=some 0
 top:∀ c∈T.cU,c<=1114111
 some':0<T.gO.length
 rules:T.rU.length=T.gO.length
 rows:∀ r∈T.gO,r.length=T.cU.length
 cells:∀ r∈T.gO,∀ x∈r,-1<=x/\x<T.gO.length
 ruleR:∀ x∈T.rU,-1<=x/\x<R
theorem xK {cU:List Int} {c:Int} (hr:cU.Pairwise (· < ·)) (hh:cU.head?=some 0) (hc:0<=c):
 nL cU c<cU.length/\cU.getD (nL cU c) 0<=c/\(nL cU c+1<cU.length->c<cU.getD (nL cU c+1) 0):=by
 have:∀ (l:List Int),l.Pairwise (· < ·)->∀ i,i<l.length->(i<l.countP (λx=>decide (x<=c))↔l.getD i 0<=c):=by
  intro l
  induction l with
  | nil=>simp
  | cons y l ih=>
   grind [List.pairwise_cons,List.countP_eq_zero]
 have:0<cU.length:=by cases cU<;>simp_all
 have:cU.getD 0 0=0:=by cases cU<;>simp_all
 grind [nL]
theorem zgX {T:dX} {k:Nat} (h:0<=(T.gO.getD set []).getD k (-1)):T.gO.getD set []∈T.gO/\k<(T.gO.getD set []).length:=by
 grind
theorem begins_of {T:dX} {R n k b0 b1 b2 b3 c w:Nat} (hT:yV T R) (h0:b0<256) (hd:decodeN n b0 b1 b2 b3=(c,w)) (hv:¬ (c=65533/\w=1)) (hk:0<k) (hkw:k<w) (hg:0<=fQ T set c):
 mH T set k b0 b1 b2=true:=by
 have hf:=xK hT.rise hT.head (c:=(c:Int)) (by omega);have hm:=zgX hg;generalize hj:nL T.cU c=j at*;have VP:(iP k b0 b1 b2*64^(eX b0-k))<=c/\c+1<=(iP k b0 b1 b2+1)*64^(eX b0-k)/\fH (eX b0)<=c/\c<=1114111:=by
  by_cases g1:b0<128
  . grind [decodeN]
  by_cases g2:b0<194
  . grind [pN]
  by_cases g3:b0<224
  . grind [oU,eX,iP,fH]
  by_cases g4:b0<240
  . rw[oV (by omega) g4] at hd
    split at hd
    . cases hd
      have hl:eX b0=3:=by unfold eX;rw[if_neg (by omega),if_pos (by omega)]
      have:k=1\/k=2:=by omega
      rcases this with rfl|rfl
      all_goals grind [iP,fH]
    grind
  by_cases g5:b0<245
  . rw[oW (by omega) g5] at hd
    split at hd
    . cases hd
      have hl:eX b0=4:=by unfold eX;rw[if_pos (by omega)]
      have:k=1\/k=2\/k=3:=by omega
      rcases this with rfl|rfl|rfl
      all_goals grind [iP,fH]
    grind
  grind [pN]
 unfold mH hitT;rw[List.any_eq_true];refine⟨j,List.mem_range.2 (by omega),?_⟩
 grind [zdc,fQ]
theorem zhx (hm:m<=s.size) (hp:p<m) (h:fY (s.extract 0 m) p=true):fY s p=true:=by
 unfold fY at h ⊢;rw[fS s m hm] at h;refine zcg ?_ (by omega:m-p<=s.size-p) (λ_=>rfl) (λ_=>rfl);rw[iV s m p hm hp] at h;refine zcg h (Nat.le_refl _) (λh=> ?_) (λh=> ?_)
 all_goals grind [iV]
theorem zbf (hm:m<=s.size) (hp:p<m) (h:fY (s.extract 0 m) p=true):Utf8.decode s p=Utf8.decode (s.extract 0 m) p:=by
 rw[lU,lU];unfold fY at h;rw[fS s m hm] at h ⊢;rw[<-iV s m p hm hp];refine zgq (eB _ _) (eB _ _) h (by omega) (λh=> ?_) (λh=> ?_) (λh=> ?_)
 all_goals grind [iV]
theorem ziz {T:dX} (hm:m<=s.size) (h:dC T (s.extract 0 m) set p=true):dC T s set p=true/\Utf8.decode s p=Utf8.decode (s.extract 0 m) p/\p<m:=by
 grind [dC,fS,zbf,zhx]
theorem lD {T:dX} (h:dC T s set p=true):p+(Utf8.decode s p).2<=s.size/\1<=(Utf8.decode s p).2/\(Utf8.decode s p).2<=4:=by
 grind [dC,iL]
theorem kJ (T:dX) (s:ByteArray) (x:vD):(nB T s x).alive=x.alive+(Utf8.decode s x.alive).2:=by
 unfold nB
 grind
theorem stepT_pre {T:dX} {x:vD} (h:Utf8.decode s x.alive=Utf8.decode (s.extract 0 m) x.alive):nB T (s.extract 0 m) x=nB T s x:=by
 unfold nB;rw[h]
theorem zcS {T:dX} :∀ (f:Nat) (x:vD),s.size<f+x.alive->dC T s (dK T s f x).set (dK T s f x).alive=false
 | 0,x,h=>by
  grind [dK,dC]
 | f+1,x,h=>by
  rw[dK];split
  . rename_i hg
    exact zcS f _ (by rw[kJ];have:=lD hg;omega)
  grind
theorem uJ {T:dX} {s:ByteArray}:∀ (f:Nat) (x:vD),x.alive<=s.size->(dK T s f x).alive<=s.size/\x.alive<=(dK T s f x).alive
 | 0,x,h=>by grind [dK]
 | f+1,x,h=>by
  rw[dK];split
  . rename_i hg
    have:=lD hg;have:=uJ (T:=T) (s:=s) f (nB T s x) (by rw[kJ];omega)
    grind [kJ]
  omega
theorem zfT {T:dX} :∀ (f g:Nat) (x:vD),s.size<f+x.alive->f<=g->dK T s g x=dK T s f x
 | 0,g,x,h,_=>by
  have:dC T s x.set x.alive=false:=by simp[dC];omega
  cases g with
  | zero=>rfl
  | succ g=>grind [dK]
 | f+1,g,x,h,hg=>by
  obtain⟨g,rfl⟩:∃ k,g=k+1:=⟨g-1,by omega⟩;rw[dK,dK];split
  . rename_i Qg
    exact zfT f g _ (by rw[kJ];have:=lD Qg;omega) (by omega)
  rfl
theorem zb1 {T:dX} {s:ByteArray} (hm:m<=s.size):∀ (f g:Nat) (x:vD),x.alive<=m->s.size<g+x.alive->dK T s g (dK T (s.extract 0 m) f x)=dK T s g x
 | 0,g,x,_,_=>by rw[dK]
 | f+1,g,x,hx,hg=>by
  rw[dK];split
  . rename_i Qg
    obtain⟨h1,h2,h3⟩:=ziz hm Qg;have qo:=lD Qg;rw[fS s m hm,<-h2] at qo;have e:=zb1 (T:=T) (s:=s) hm f g (nB T (s.extract 0 m) x) (by grind [kJ]) (by grind [kJ]);rw[e,stepT_pre h2];obtain⟨g,rfl⟩:∃ k,g=k+1:=⟨g-1,by omega⟩
    grind [dK,zfT,kJ]
  rfl
end Go.Proofs.YtmfnmkccbldfpaaGreatDoor
namespace Go.Proofs.YtmfnmkccbldfpaaGreatDoor
open Go.Lib (firstT accLo accHi decodeN)
variable {set n m m' b0 b1 b2 c1 c2 R:Nat} {s:ByteArray}
def dU (T:dX) (s:ByteArray) (x:vD):Nat:=x.alive+qT T s x.set x.alive
theorem zeC (T:dX) (set m b0 b1 b2:Nat):lZ T set m b0 b1 b2<=m:=by
 grind [lZ,gK]
theorem zgQ {T:dX} (hm:m<=m') (e1:1<m->c1=b1) (e2:2<m->c2=b2) (hn:n<=3) (Yn:0<n) (h:gK T set n m b0 b1 b2=true):gK T set n m' b0 c1 c2=true:=by
 grind [gK,fG,mH,iP]
theorem ziQ {T:dX} (hm:m<=m') (e1:1<m->c1=b1) (e2:2<m->c2=b2):lZ T set m b0 b1 b2<=lZ T set m' b0 c1 c2:=by
 grind [lZ,zgQ]
theorem ziR {T:dX} (hm:m<=m') (e1:1<m->c1=b1) (e2:2<m->c2=b2) (h:lZ T set m b0 b1 b2<m):lZ T set m' b0 c1 c2=lZ T set m b0 b1 b2:=by
 grind [gK,fG,mH,iP,lZ]
theorem zae {k b3 c w:Nat} (h0:b0<256) (Hk:b1<256) (hd:decodeN n b0 b1 b2 b3=(c,w)) (hv:¬ (c=65533/\w=1)) (hk:w<=k) (YQ:0<k):fG k b0 b1 b2=true:=by
 grind [zds,oU,xO,oV,xP,oW,xQ]
theorem qS (h0:b0<256) (h:fG n b0 b1 b2=false):n<=3:=by
 rcases Nat.lt_or_ge 3 n with h1|h1
 . have:firstT b0%8<=4:=by rcases jF b0 h0 with h|h|h|h|h|h|h|h|h|h<;>omega
   grind [fG]
 omega
theorem amid {T:dX} (hT:yV T R) {p:Nat} (hm:m<=s.size) (hp:p<=m) (hB:dC T (s.extract 0 m) set p=false) (hs:dC T s set p=true):
 qT T (s.extract 0 m) set p=m-p/\m<p+(Utf8.decode s p).2:=by
 simp only[dC,Bool.and_eq_true,decide_eq_true_eq,Bool.not_eq_true',decide_eq_false_iff_not] at hs;obtain⟨h1,h2,h3,h4⟩:=hs
 rcases Nat.lt_or_ge p m with Hf|Br
 . by_cases hf:fY (s.extract 0 m) p=true
   . grind [zbf,dC,fS]
   have EB:fY (s.extract 0 m) p=false:=by simpa using hf
   have hdd:=lU s p
   rcases hx:Utf8.decode s p with⟨c,w⟩
   rw[hx] at h3 h4 hdd;have hd:=hdd.symm;have hv:¬ (c=65533/\w=1):=λe=>h3 (by grind);unfold fY at EB;rw[fS s m hm,iV s m p hm Hf] at EB;have ke:=qS (eB _ _) EB;have hw:m-p<w:=by
    rcases Nat.lt_or_ge (m-p) w with h|h
    . exact h
    exfalso
    have hk:=zae (eB _ _) (eB _ _) hd hv h (by omega)
    grind [fG,iV]
   refine⟨?_,by omega⟩;have ok:∀ k,0<k->k<=m-p->gK T set k (m-p) (bL s p) (bL (s.extract 0 m) (p+1)) (bL (s.extract 0 m) (p+2))=true:=by
    intro k hk pg;have hb:=begins_of (n:=s.size-p) (b3:=bL s (p+3)) hT (eB s p) hd hv hk (by omega) h4;simp only[gK,Bool.and_eq_true,decide_eq_true_eq,Bool.not_eq_true'];refine⟨pg,?_,?_⟩
    . grind [zcg]
    grind [mH,iP,iV]
   grind [qT,lZ,fS,iV,gK]
 have:p=m:=by omega
 subst this;have hl:=lD (T:=T) (s:=s) (set:=set) (p:=p) (by grind [dC])
 grind [zeC,fS,qT]
theorem zay {T:dX} {x:vD} (h:x.alive<=s.size):dU T s x<=s.size:=by
 grind [zeC,dU,qT]
theorem za4 {T:dX} (g:Nat) {x:vD} (h:dC T s x.set x.alive=false):dK T s g x=x:=by
 cases g with
 | zero=>rfl
 | succ g=>grind [dK]
theorem zif {T:dX} (hT:yV T R) {f g:Nat} {x:vD} (hm:m<=s.size) (hx:x.alive<=m) (hf:m<f+x.alive) (hg:s.size<g+x.alive):
 dU T (s.extract 0 m) (dK T (s.extract 0 m) f x)<=dU T s (dK T s g x):=by
 have Hv:=fS s m hm;have Hh:=zcS (T:=T) (s:=s.extract 0 m) f x (by omega);have qo:=uJ (T:=T) (s:=s.extract 0 m) f x (by omega);rw[<-zb1 (T:=T) hm f g x hx hg];generalize dK T (s.extract 0 m) f x=y at*;rw[Hv] at qo;by_cases hs:dC T s y.set y.alive=true
 . have:=amid hT hm qo.1 Hh hs
   have:=lD hs;cases g with
   | zero=>omega
   | succ g=>
    grind [dK,uJ,kJ,dU]
 have xx:dC T s y.set y.alive=false:=by simpa using hs
 rw[za4 g xx];unfold dU qT
 grind [Nat.lt_or_ge,iV,ziQ,zeC]
theorem zig {T:dX} (hT:yV T R) {f g:Nat} {x:vD} (hm:m<=s.size) (hx:x.alive<=m) (hf:m<f+x.alive) (hg:s.size<g+x.alive)
 (ha:dU T (s.extract 0 m) (dK T (s.extract 0 m) f x)<m):dK T s g x=dK T (s.extract 0 m) f x/\dU T s (dK T s g x)=dU T (s.extract 0 m) (dK T (s.extract 0 m) f x):=by
 have Hv:=fS s m hm;have:=zcS (T:=T) (s:=s.extract 0 m) f x (by omega);have qo:=uJ (T:=T) (s:=s.extract 0 m) f x (by omega);rw[<-zb1 (T:=T) hm f g x hx hg];generalize dK T (s.extract 0 m) f x=y at*;rw[Hv] at qo;by_cases hs:dC T s y.set y.alive=true
 . grind [amid,dU]
 have xx:dC T s y.set y.alive=false:=by simpa using hs
 rw[za4 g xx];refine⟨rfl,?_⟩;unfold dU qT at ha ⊢;rw[Hv] at ha ⊢;have Hf:y.alive<m:=by omega
 rw[iV s m _ hm Hf] at ha ⊢;have:=ziR (T:=T) (set:=y.set) (b0:=bL s y.alive) (b1:=bL (s.extract 0 m) (y.alive+1)) (b2:=bL (s.extract 0 m) (y.alive+2)) (c1:=bL s (y.alive+1)) (c2:=bL s (y.alive+2))
  (by omega:m-y.alive<=s.size-y.alive) (λh=>(iV s m _ hm (by omega)).symm) (λh=>(iV s m _ hm (by omega)).symm) (by omega)
 omega
inductive Nx where
 | err (e:Nat)
 | tok (rU:Int) (len:Nat)
 deriving DecidableEq
def kY:vD:=⟨0,0,0,-1⟩
def mU (T:dX) (C:Nat) (s:ByteArray) (why:Nat):Nx:=
 let x:=dK T s (s.size+1) kY
 if C<=dU T s x then .err 10
 else if dU T s x=s.size/\why≠13 then .err why
 else if s.size=0 then .err 13
 else if x.rU<0 then (if fY s 0=false/\why≠13 then .err why else .tok (-1) (Utf8.decode s 0).2)
 else .tok x.rU x.long
end Go.Proofs.YtmfnmkccbldfpaaGreatDoor
namespace Go.Proofs.YtmfnmkccbldfpaaGreatDoor
open Go.Lib (firstT accLo accHi decodeN)
def wN (b:Nat):Nat:=if 194<=b/\b<224 then 2 else if 224<=b/\b<240 then 3 else if 240<=b/\b<245 then 4 else 0
def jL (lo hi:Int) (n b0 b1 b2:Nat):Bool:=
 decide (n<wN b0)&&(decide (n<2\/b1 / 64=2)&&(decide (n<3\/b2 / 64=2)&&
  decide (max (max ((iP n b0 b1 b2*64^(eX b0-n):Nat):Int) (fH (eX b0))) lo<=min ((((iP n b0 b1 b2+1)*64^(eX b0-n):Nat):Int)-1) hi)))
theorem zaw {lo hi:Int} {n b0 b1 b2:Nat} (hn:0<n) (ke:n<=3) (h0:b0<256) (h1:b1<256) (h2:b2<256) (hs:hi<55296\/57344<=lo) (hl:0<=lo) (hh:hi<=1114111):
 jL lo hi n b0 b1 b2=(!fG n b0 b1 b2&&decide (max (max ((iP n b0 b1 b2*64^(eX b0-n):Nat):Int) (fH (eX b0))) lo<=min ((((iP n b0 b1 b2+1)*64^(eX b0-n):Nat):Int)-1) hi)):=by
 rw[Bool.eq_iff_iff];simp only[jL,Bool.and_eq_true,Bool.not_eq_true',decide_eq_true_eq];have Xj:n=1\/n=2\/n=3:=by omega
 rcases (by omega:(b0<194\/245<=b0)\/(194<=b0/\b0<224)\/(224<=b0/\b0<240)\/(240<=b0/\b0<245)) with h|h|h|h
 . have hw:wN b0=0:=by unfold wN;rw[if_neg (by omega),if_neg (by omega),if_neg (by omega)]
   have hf:fG n b0 b1 b2=true:=by
    have:firstT b0%8<=n:=by rcases jF b0 h0 with h|h|h|h|h|h|h|h|h|h<;>omega
    simp[fG,hn,this]
   rw[hw,hf];constructor
   . intro h;omega
   intro h;cases h.1
 . have hw:wN b0=2:=by unfold wN;rw[if_pos h]
   have Q9:eX b0=2:=by unfold eX;rw[if_neg (by omega),if_neg (by omega)]
   have GF:fG n b0 b1 b2=false↔¬ 2<=n:=by rw[xO h.1 h.2 h1];simp
   rw[hw,Q9,GF]
   rcases Xj with rfl|rfl|rfl
   . simp[iP,Q9,fH]
   . simp
   simp
 . have hw:wN b0=3:=by unfold wN;rw[if_neg (by omega),if_pos h]
   have Q9:eX b0=3:=by unfold eX;rw[if_neg (by omega),if_pos (by omega)]
   have GF:fG n b0 b1 b2=false↔¬ (3<=n\/(2<=n/\¬ (b1 / 64=2/\(b0=224->160<=b1)/\(b0=237->b1<160)))):=by rw[<-xP (n:=n) (b2:=b2) h.1 h.2 h1];simp
   rw[hw,Q9,GF]
   rcases Xj with rfl|rfl|rfl
   . simp[iP,Q9,fH]
   . simp only[iP,Q9,fH,show ¬ (2:Nat)=1 from by decide,if_false,if_true,show (7-3:Nat)=4 from rfl,show ((2:Nat)^4)=16 from rfl,show ((64:Nat)^(3-2))=64 from rfl,show ¬ (3:Nat)=2 from by decide]
     omega
   simp
 have hw:wN b0=4:=by unfold wN;rw[if_neg (by omega),if_neg (by omega),if_pos h]
 have Q9:eX b0=4:=by unfold eX;rw[if_pos (by omega)]
 have GF:fG n b0 b1 b2=false↔¬ (4<=n\/(2<=n/\¬ (b1 / 64=2/\(b0=240->144<=b1)/\(b0=244->b1<144)))\/(3<=n/\¬ b2 / 64=2)):=by rw[<-xQ (n:=n) (b2:=b2) h.1 h.2 h1];simp
 rw[hw,Q9,GF]
 rcases Xj with rfl|rfl|rfl
 . simp[iP,Q9,fH]
 . simp only[iP,Q9,fH,show ¬ (2:Nat)=1 from by decide,if_false,if_true,show (7-4:Nat)=3 from rfl,show ((2:Nat)^3)=8 from rfl,show ((64:Nat)^(4-2))=4096 from rfl,show ¬ (4:Nat)=2 from by decide,show ¬ (4:Nat)=3 from by decide]
   omega
 simp only[iP,Q9,fH,show ¬ (3:Nat)=1 from by decide,show ¬ (3:Nat)=2 from by decide,if_false,if_true,show (7-4:Nat)=3 from rfl,show ((2:Nat)^3)=8 from rfl,show ((64:Nat)^(4-3))=64 from rfl,show ¬ (4:Nat)=2 from by decide,show ¬ (4:Nat)=3 from by decide]
 omega
