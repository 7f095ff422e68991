/-
  Part of the proof: ParseP, LayP, ScanP, ScanQ, ScanR. No condition beyond those in the statements.
-/
import GoSem.Core.Utf8
import Derived.Lib.DecodeN
set_option linter.unusedVariables false
set_option linter.unusedSimpArgs false
set_option maxRecDepth 100000
namespace Go.Proofs.YtghpmhllpaheiaaGreatDoor
abbrev Err := Nat × Nat
inductive Tree where
 | cls (l : List (Int × Int))
 | row (l : List Tree)
 | either (a b : Tree)
 | rep (t : Tree) (min : Int) (once : Bool)
def zbp (s : ByteArray) (p : Nat) : Except Err Int :=
 if p < s.size then
  if (Utf8.decode s p).1 = 65533 /\ (Utf8.decode s p).2 = 1 then .error (2, p) else .ok ((Utf8.decode s p).1 : Int)
 else .ok (-1)
def zem (s : ByteArray) (p : Nat) : Except Err (Int × Nat) :=
 match zbp s p with
 | .error e => .error e
 | .ok c => .ok (c, if c = -1 then p else p + (Utf8.decode s p).2)
def byt (s : ByteArray) (p : Nat) : Nat := (s.get! p).toNat
def dig (s : ByteArray) (p : Nat) : Bool := decide (p < s.size) && (decide (48 <= byt s p) && decide (byt s p <= 57))
def zbK (s : ByteArray) (p k : Nat) : Except Err (Nat × Nat) :=
 if dig s p then
  if dig s (p + 1) then
   if dig s (p + 2) then .error (4, k) else .ok (10 * (byt s p - 48) + (byt s (p + 1) - 48), p + 2)
  else .ok (byt s p - 48, p + 1)
 else .error (4, k)
def isB (s : ByteArray) (p c : Nat) : Bool := decide (p < s.size) && decide (byt s p = c)
def hexP (b : Nat) : Option Nat :=
 if 48 <= b /\ b <= 57 then some (b - 48) else if 97 <= b /\ b <= 102 then some (b - 87) else if 65 <= b /\ b <= 70 then some (b - 55) else none
def zbC (s : ByteArray) (k : Nat) : Nat -> Nat -> Nat -> Nat -> Except Err (Nat × Nat × Nat)
 | 0, _, _, _ => .error (0, 0)
 | f + 1, p, v, d =>
  if decide (p < s.size) && !decide (byt s p = 125) then
   match hexP (byt s p) with
   | none => .error (2, k)
   | some h => if d = 6 then .error (2, k) else zbC s k f (p + 1) (16 * v + h) (d + 1)
  else .ok (v, d, p)
def zdM (s : ByteArray) (p k : Nat) : Except Err (Int × Nat) :=
 if isB s p 123 then
  match zbC s k 8 (p + 1) 0 0 with
  | .error e => .error e
  | .ok (v, d, q) =>
   if d ≠ 0 /\ isB s q 125 = true /\ ((v < 55296) \/ (57343 < v /\ v <= 1114111)) then .ok (v, q + 1) else .error (2, k)
 else .error (2, k)
def escs : List Nat := [40, 41, 91, 93, 123, 125, 124, 42, 43, 63, 46, 92, 45, 94]
def zaV (s : ByteArray) (p : Nat) : Except Err (Int × Nat) :=
 match zem s p with
 | .error e => .error e
 | .ok (c, q) =>
  if c = 92 then
   if q < s.size then
    if byt s q = 110 then .ok (10, q + 1)
    else if byt s q = 116 then .ok (9, q + 1)
    else if byt s q = 114 then .ok (13, q + 1)
    else if byt s q = 117 then zdM s (q + 1) p
    else if escs.contains (byt s q) then .ok (byt s q, q + 1) else .error (2, p)
   else .error (2, p)
  else .ok (c, q)
def zhN (s : ByteArray) (p : Nat) : Except Err (Int × Nat) :=
 match zbp s p with
 | .error e => .error e
 | .ok c => if c = -1 \/ c = 91 \/ c = 93 \/ c = 45 then .error (2, p) else zaV s p
def zeG (s : ByteArray) (p : Nat) : Except Err ((Int × Int) × Nat) :=
 match zhN s p with
 | .error e => .error e
 | .ok (lo, q) =>
  match zbp s q with
  | .error e => .error e
  | .ok c =>
   if c = 45 then
    match zhN s (q + 1) with
    | .error e => .error e
    | .ok (hi, q2) => if hi < lo then .error (3, p) else .ok ((lo, hi), q2)
   else .ok ((lo, lo), q)
def zbW (s : ByteArray) : Nat -> Nat -> List (Int × Int) -> Except Err (List (Int × Int) × Nat)
 | 0, _, _ => .error (0, 0)
 | f + 1, p, l =>
  if l = [] then
   match zeG s p with
   | .error e => .error e
   | .ok (x, q) => zbW s f q (l ++ [x])
  else
   match zbp s p with
   | .error e => .error e
   | .ok c =>
    if c = 93 then .ok (l, p) else
     match zeG s p with
     | .error e => .error e
     | .ok (x, q) => zbW s f q (l ++ [x])
def cutP (l : List (Int × Int)) (r : Int × Int) : List (Int × Int) :=
 l.flatMap fun x =>
  if x.2 < r.1 \/ x.1 > r.2 then [x] else (if x.1 < r.1 then [(x.1, r.1 - 1)] else []) ++ (if x.2 > r.2 then [(r.2 + 1, x.2)] else [])
def zev (l : List (Int × Int)) : List (Int × Int) := l.foldl cutP [(0, 55295), (57344, 1114111)]
def zdn (s : ByteArray) (p k : Nat) : Except Err (List (Int × Int) × Nat) :=
 match zbp s p with
 | .error e => .error e
 | .ok c =>
  match zbW s (s.size + 2) (if c = 94 then p + 1 else p) [] with
  | .error e => .error e
  | .ok (l, q) =>
   if c = 94 then
    if zev l = [] then .error (3, k) else .ok (zev l, q + 1)
   else .ok (l, q + 1)
mutual
def zaO : Tree -> Int
 | .cls _ => 1
 | .row l => zbI l 0
 | .either a b => min 100 (zaO a + zaO b)
 | .rep t _ _ => zaO t
def zbI : List Tree -> Int -> Int
 | [], n => n
 | t :: l, n => zbI l (min 100 (n + zaO t))
end
def zgp (s : ByteArray) (p : Nat) (t : Tree) : Except Err (Tree × Nat) :=
 match zbK s (p + 1) p with
 | .error e => .error e
 | .ok (lo, q) =>
  match (if isB s q 44 then (if decide (q + 1 < s.size) && !decide (byt s (q + 1) = 125) then (zbK s (q + 1) p).map (fun x => ((x.1 : Int), x.2)) else .ok (-1, q + 1)) else .ok ((lo : Int), q) : Except Err (Int × Nat)) with
  | .error e => .error e
  | .ok (hi, q2) =>
   if isB s q2 125 = false \/ 8 < lo \/ 8 < hi \/ (0 <= hi /\ hi < lo) \/ zaO t = 0 then .error (4, p)
   else if hi < 0 then
    if lo = 0 then .ok (.rep t 0 false, q2 + 1) else .ok (.row (List.replicate (lo - 1) t ++ [.rep t 1 false]), q2 + 1)
   else .ok (.row (List.replicate lo t ++ List.replicate (hi.toNat - lo) (.rep t 0 true)), q2 + 1)
def zer (s : ByteArray) (p : Nat) (t : Tree) : Except Err (Tree × Nat) :=
 match zbp s p with
 | .error e => .error e
 | .ok c =>
  if c = 42 then .ok (.rep t 0 false, p + 1)
  else if c = 43 then .ok (.rep t 1 false, p + 1)
  else if c = 63 then .ok (.rep t 0 true, p + 1)
  else if c = 123 then zgp s p t
  else .ok (t, p)
mutual
def altP (s : ByteArray) : Nat -> Nat -> Nat -> Except Err (Tree × Nat)
 | 0, _, _ => .error (0, 0)
 | f + 1, deep, p =>
  match rowP s f deep p [] with
  | .error e => .error e
  | .ok (t, q) => zc3 s f deep q t
def zc3 (s : ByteArray) : Nat -> Nat -> Nat -> Tree -> Except Err (Tree × Nat)
 | 0, _, _, _ => .error (0, 0)
 | f + 1, deep, p, t =>
  match zbp s p with
  | .error e => .error e
  | .ok c =>
   if c = 124 then
    match rowP s f deep (p + 1) [] with
    | .error e => .error e
    | .ok (u, q) => zc3 s f deep q (.either t u)
   else .ok (t, p)
def rowP (s : ByteArray) : Nat -> Nat -> Nat -> List Tree -> Except Err (Tree × Nat)
 | 0, _, _, _ => .error (0, 0)
 | f + 1, deep, p, l =>
  match zbp s p with
  | .error e => .error e
  | .ok c =>
   if c = -1 \/ c = 124 \/ c = 41 then .ok (.row l, p)
   else
    match zgB s f deep p with
    | .error e => .error e
    | .ok (t, q) =>
     match zer s q t with
     | .error e => .error e
     | .ok (u, q2) => rowP s f deep q2 (l ++ [u])
def zgB (s : ByteArray) : Nat -> Nat -> Nat -> Except Err (Tree × Nat)
 | 0, _, _ => .error (0, 0)
 | f + 1, deep, p =>
  match zbp s p with
  | .error e => .error e
  | .ok c =>
   if c = 40 then
    if deep = 8 then .error (5, p) else
     match altP s f (deep + 1) (p + 1) with
     | .error e => .error e
     | .ok (t, q) =>
      match zbp s q with
      | .error e => .error e
      | .ok d => if d = 41 then .ok (t, q + 1) else .error (2, q)
   else if c = 91 then
    match zdn s (p + 1) p with
    | .error e => .error e
    | .ok (l, q) => .ok (.cls l, q)
   else if c = 46 then .ok (.cls [(0, 9), (11, 1114111)], p + 1)
   else if c = 93 \/ c = 123 \/ c = 125 \/ c = 42 \/ c = 43 \/ c = 63 then .error (2, p)
   else
    match zaV s p with
    | .error e => .error e
    | .ok (x, q) => .ok (.cls [(x, x)], q)
end
def zds (s : ByteArray) : Except Err Tree :=
 match altP s (4 * s.size + 10) 0 0 with
 | .error e => .error e
 | .ok (t, q) => if q < s.size then .error (2, q) else .ok t
theorem ziq (n b0 b1 b2 b3 : Nat) (h0 : b0 < 256) (hn : 0 < n) :
 Lib.decodeN n b0 b1 b2 b3 = (65533, 1) \/ ∃ x k, Lib.decodeN n b0 b1 b2 b3 = (x, k) /\
  ((k = 1 /\ x < 128) \/ (k = 2 /\ 1 < n /\ 128 <= x /\ x < 2048) \/ (k = 3 /\ 2 < n /\ 2048 <= x /\ x < 65536 /\ (x < 55296 \/ 57344 <= x)) \/ (k = 4 /\ 3 < n /\ 65536 <= x /\ x <= 1114111)) := by
 unfold Lib.decodeN; by_cases c1 : b0 < 128
 . rw [if_pos c1]; exact .inr ⟨_, _, rfl, .inl ⟨rfl, c1⟩⟩
 rw [if_neg c1]; by_cases c2 : b0 / 32 = 6 /\ (1 < n /\ b1 / 64 = 2)
 . rw [if_pos c2]
   split
   . exact .inr ⟨_, _, rfl, .inr (.inl ⟨rfl, c2.2.1, by omega, by omega⟩)⟩
   exact .inl rfl
 rw [if_neg c2]; by_cases c3 : b0 / 16 = 14 /\ (1 < n /\ b1 / 64 = 2) /\ (2 < n /\ b2 / 64 = 2)
 . rw [if_pos c3]
   split
   . exact .inr ⟨_, _, rfl, .inr (.inr (.inl ⟨rfl, c3.2.2.1, by omega, by omega, by omega⟩))⟩
   exact .inl rfl
 rw [if_neg c3]; by_cases c4 : b0 / 8 = 30 /\ (1 < n /\ b1 / 64 = 2) /\ (2 < n /\ b2 / 64 = 2) /\ (3 < n /\ b3 / 64 = 2)
 . rw [if_pos c4]
   split
   . exact .inr ⟨_, _, rfl, .inr (.inr (.inr ⟨rfl, c4.2.2.2.1, by omega, by omega⟩))⟩
   exact .inl rfl
 rw [if_neg c4]; exact .inl rfl
theorem zcd (s : ByteArray) (p : Nat) (he : p < s.size) (h : ¬ ((Utf8.decode s p).1 = 65533 /\ (Utf8.decode s p).2 = 1)) :
 ∃ x k, Utf8.decode s p = (x, k) /\ ((k = 1 /\ x < 128) \/ (k = 2 /\ p + 1 < s.size /\ 128 <= x /\ x < 2048) \/ (k = 3 /\ p + 2 < s.size /\ 2048 <= x /\ x < 65536 /\ (x < 55296 \/ 57344 <= x)) \/ (k = 4 /\ p + 3 < s.size /\ 65536 <= x /\ x <= 1114111)) := by
 have h0 := (s.get! p).toNat_lt
 rcases ziq (s.size - p) (s.get! p).toNat (s.get! (p + 1)).toNat (s.get! (p + 2)).toNat (s.get! (p + 3)).toNat h0 (by omega) with e | ⟨x, k, e, hh⟩
 . rw [Lib.decode_at, e] at h
   exact absurd ⟨rfl, rfl⟩ h
 refine ⟨x, k, by rw [Lib.decode_at, e], ?_⟩
 rcases hh with hh | hh | hh | hh
 . exact .inl hh
 . exact .inr (.inl ⟨hh.1, by omega, hh.2.2⟩)
 . exact .inr (.inr (.inl ⟨hh.1, by omega, hh.2.2⟩))
 exact .inr (.inr (.inr ⟨hh.1, by omega, hh.2.2⟩))
end Go.Proofs.YtghpmhllpaheiaaGreatDoor
namespace Go.Proofs.YtghpmhllpaheiaaGreatDoor
abbrev Set2 := Nat × Nat
def Set2.add (s : Set2) (n : Nat) : Set2 := if n < 64 then (s.1 ||| (2 ^ n), s.2) else (s.1, s.2 ||| (2 ^ (n - 64)))
def Set2.has (s : Set2) (n : Nat) : Bool := if n < 64 then s.1.testBit n else s.2.testBit (n - 64)
def Set2.or (s o : Set2) : Set2 := (s.1 ||| o.1, s.2 ||| o.2)
def Set2.and (s o : Set2) : Set2 := (s.1 &&& o.1, s.2 &&& o.2)
structure Knot where
 to : List Nat
 place : Nat
 fin : Bool
 deriving DecidableEq
structure zaz where
 knots : List Knot
 cls : List (List (Int × Int))
 behind : List Nat
 deriving DecidableEq
def zaz.push (s : zaz) (k : Knot) : zaz := { s with knots := s.knots ++ [k] }
def zeL (l : List Nat) (k : Knot) : Knot := ⟨k.to ++ l, k.place, k.fin⟩
def finK (k : Knot) : Knot := ⟨k.to, k.place, true⟩
def zaz.link (s : zaz) (i : Nat) (l : List Nat) : zaz := { s with knots := s.knots.modify i (zeL l) }
def zaz.finish (s : zaz) (i : Nat) : zaz := { s with knots := s.knots.modify i finK }
mutual
def layT : Tree -> Nat -> zaz -> Option (Nat × zaz)
 | .cls c, i, s =>
  if 64 < s.cls.length then none else
   some (s.knots.length, { (((s.push ⟨[], 0, false⟩).push ⟨[], s.cls.length, false⟩).link i [s.knots.length + 1]) with cls := s.cls ++ [c], behind := s.behind ++ [s.knots.length] })
 | .row l, i, s => layR l i s
 | .either x y, i, s =>
  match layT x s.knots.length ((((s.push ⟨[], 0, false⟩).push ⟨[], 0, false⟩).push ⟨[], 0, false⟩).link i [s.knots.length, s.knots.length + 1]) with
  | none => none
  | some (p, s2) =>
   match layT y (s.knots.length + 1) s2 with
   | none => none
   | some (q, s3) => some (s.knots.length + 2, (s3.link p [s.knots.length + 2]).link q [s.knots.length + 2])
 | .rep t m once, i, s =>
  match layT t s.knots.length (((s.push ⟨[], 0, false⟩).push ⟨[], 0, false⟩).link i [s.knots.length]) with
  | none => none
  | some (p, s2) =>
   let s3 := s2.link p [s.knots.length + 1]
   let s4 := if once then s3 else s3.link p [s.knots.length]
   some (s.knots.length + 1, if m = 0 then s4.link s.knots.length [s.knots.length + 1] else s4)
def layR : List Tree -> Nat -> zaz -> Option (Nat × zaz)
 | [], i, s => some (i, s)
 | t :: l, i, s =>
  match layT t i s with
  | none => none
  | some (p, s2) => layR l p s2
end
def toOf (G : List Knot) (k : Nat) : List Nat := (G[k]?.map (·.to)).getD []
def zao (G : List Knot) (k : Nat) : Nat := (G[k]?.map (·.place)).getD 0
def za7 (G : List Knot) (k : Nat) : Bool := (G[k]?.map (·.fin)).getD false
mutual
def dfs (G : List Knot) : Nat -> Nat -> List Nat -> Option (List Nat)
 | 0, _, _ => none
 | f + 1, k, seen => if seen.contains k then some seen else dfsL G f (toOf G k) (seen ++ [k])
def dfsL (G : List Knot) : Nat -> List Nat -> List Nat -> Option (List Nat)
 | 0, _, _ => none
 | _ + 1, [], seen => some seen
 | f + 1, k :: r, seen =>
  match dfs G f k seen with
  | none => none
  | some s2 => dfsL G f r s2
end
def zam (G : List Knot) (l : List Nat) : Set2 := l.foldl (fun s k => if 0 < zao G k then s.add (zao G k) else s) (0, 0)
def zbZ (G : List Knot) (l : List Nat) : Bool := l.any (za7 G)
def reachP (G : List Knot) (f : Nat) (k : Nat) : Option (Set2 × Bool) := (dfs G f k []).map fun l => (zam G l, zbZ G l)
structure Lay where
 cls : List (List (Int × Int))
 rule : List Int
 follow : List Set2
 deriving DecidableEq
def zhE (G : List Knot) (f : Nat) (i : Nat) : List Nat -> Lay -> Option Lay
 | [], L => some L
 | b :: r, L =>
  match reachP G f b with
  | none => none
  | some (s, ends) => zhE G f i r { L with follow := L.follow ++ [s], rule := L.rule ++ [if ends then (i : Int) else -1] }
def zj8 (f : Nat) : List Tree -> Nat -> zaz -> Lay -> Option Lay
 | [], _, _, L => some L
 | t :: r, i, s, L =>
  match layT t s.knots.length (s.push ⟨[], 0, false⟩) with
  | none => none
  | some (e, s1) =>
   match reachP (s1.finish e).knots f s.knots.length with
   | none => none
   | some (first, _) =>
    match zhE (s1.finish e).knots f i (s1.behind.drop s.behind.length) { L with cls := s1.cls, follow := L.follow.modify 0 (Set2.or · first) } with
    | none => none
    | some L2 => zj8 f r (i + 1) (s1.finish e) L2
def layP (f : Nat) (l : List Tree) : Option Lay := zj8 f l 0 ⟨[], [[]], [0]⟩ ⟨[[]], [-1], [(0, 0)]⟩
def insU (x : Int) : List Int -> List Int
 | [] => [x]
 | y :: l => if x < y then x :: y :: l else if x = y then y :: l else y :: insU x l
def zgI (l : List Int) : List Int := l.foldr insU []
def za8 : List Int := [0, 128, 2048, 55296, 57344, 65536]
def zay (c : List (Int × Int)) : List Int := c.flatMap fun r => if r.2 < 1114111 then [r.1, r.2 + 1] else [r.1]
def zba (cls : List (List (Int × Int))) : List Int := za8 ++ cls.flatMap zay
def zat (cls : List (List (Int × Int))) : List Int := zgI (zba cls)
def zdf (c : Int) : Bool := decide (0 <= c /\ c < 55296) || decide (57343 < c /\ c <= 1114111)
def za2 (k : List (Int × Int)) (c : Int) : Bool := zdf c && k.any fun r => decide (r.1 <= c) && decide (c <= r.2)
def zaJ (c : Int) : List (List (Int × Int)) -> Nat -> Set2 -> Set2
 | [], _, s => s
 | k :: r, n, s => zaJ c r (n + 1) (if za2 k c then s.add n else s)
def zav (cls : List (List (Int × Int))) (c : Int) : Set2 := zaJ c cls 0 (0, 0)
def zaw (L : Lay) (s : Set2) : Nat -> Set2 × Int
 | 0 => ((0, 0), -1)
 | n + 1 =>
  let p := zaw L s n
  if s.has n then (p.1.or (L.follow.getD n (0, 0)), if 0 <= L.rule.getD n (-1) /\ (p.2 < 0 \/ L.rule.getD n (-1) < p.2) then L.rule.getD n (-1) else p.2) else p
def zdP (follow : Set2) : List Set2 -> List Set2 -> List Int -> Option (List Set2 × List Int)
 | [], sets, row => some (sets, row)
 | m :: r, sets, row =>
  let to := follow.and m
  if to = (0, 0) then zdP follow r sets (row ++ [-1])
  else
   match sets.findIdx? (· = to) with
   | some j => zdP follow r sets (row ++ [(j : Int)])
   | none => if 200 < sets.length then none else zdP follow r (sets ++ [to]) (row ++ [(sets.length : Int)])
structure Tab where
 cuts : List Int
 rule : List Int
 goes : List (List Int)
 bound : Int
 deriving DecidableEq
def za1 (L : Lay) (ms : List Set2) : Nat -> List Set2 -> List Int -> List (List Int) -> Option (List Int × List (List Int))
 | 0, sets, rule, goes => if rule.length < sets.length then none else some (rule, goes)
 | f + 1, sets, rule, goes =>
  if rule.length < sets.length then
   let p := zaw L (sets.getD rule.length (0, 0)) L.cls.length
   match zdP p.1 ms sets [] with
   | none => none
   | some (sets2, row) => za1 L ms f sets2 (rule ++ [p.2]) (goes ++ [row])
  else some (rule, goes)
def zcA (c : Int) : Int := if c < 0 then -1 else if c < 128 then 1 else if c < 2048 then 2 else if 55296 <= c /\ c <= 57343 then -1 else if c < 65536 then 3 else if c <= 1114111 then 4 else -1
structure BSt where
 state : List Int
 far : List Int
 round : Bool
 deriving DecidableEq
mutual
def zeK (T : Tab) : Nat -> Nat -> BSt -> Option BSt
 | 0, _, _ => none
 | f + 1, i, b =>
  match zbm T f i 0 (T.goes.getD i []) { b with state := b.state.set i 1 } with
  | none => none
  | some b2 => some { b2 with state := b2.state.set i 2 }
def zbm (T : Tab) : Nat -> Nat -> Nat -> List Int -> BSt -> Option BSt
 | 0, _, _, _, _ => none
 | _ + 1, _, _, [], b => some b
 | f + 1, i, k, to :: r, b =>
  if to < 0 then zbm T f i (k + 1) r b
  else
   let w := zcA (T.cuts.getD k 0)
   let b1 := { b with far := b.far.set i (max (b.far.getD i 0) (w - 1)) }
   if 0 <= T.rule.getD to.toNat 0 then zbm T f i (k + 1) r b1
   else if b1.state.getD to.toNat 0 = 1 then zbm T f i (k + 1) r { b1 with round := true }
   else
    match (if b1.state.getD to.toNat 0 = 0 then zeK T f to.toNat b1 else some b1) with
    | none => none
    | some b2 => zbm T f i (k + 1) r { b2 with far := b2.far.set i (max (b2.far.getD i 0) (w + b2.far.getD to.toNat 0)) }
end
def zaN (T : Tab) (f : Nat) : Nat -> Nat -> Int -> BSt -> Option (Int × BSt)
 | 0, _, best, b => some (best, b)
 | n + 1, i, best, b =>
  if 0 < i /\ T.rule.getD i 0 < 0 then zaN T f n (i + 1) best b
  else
   match (if b.state.getD i 0 = 0 then zeK T f i b else some b) with
   | none => none
   | some b2 => zaN T f n (i + 1) (max best (b2.far.getD i 0)) b2
def boundP (f : Nat) (T : Tab) : Option Int :=
 match zaN T f T.goes.length 0 0 ⟨List.replicate T.goes.length 0, List.replicate T.goes.length 0, false⟩ with
 | none => none
 | some (best, b) => some (if b.round then -1 else best + 1)
def makeP (L : Lay) (f : Nat) : Option Tab :=
 match za1 L ((zat L.cls).map (zav L.cls)) 202 [(1, 0)] [] [] with
 | none => none
 | some (rule, goes) => (boundP f ⟨zat L.cls, rule, goes, 0⟩).map fun b => ⟨zat L.cls, rule, goes, b⟩
end Go.Proofs.YtghpmhllpaheiaaGreatDoor
namespace Go.Proofs.YtghpmhllpaheiaaGreatDoor
open Go.Lib (firstT accLo accHi decodeN)
def zbs (n b0 b1 b2 : Nat) : Bool :=
 decide (0 < n) && (decide (firstT b0 % 8 <= n) || ((decide (1 < n) && (decide (b1 < accLo (firstT b0 / 16)) || decide (accHi (firstT b0 / 16) < b1))) || (decide (2 < n) && (decide (b2 < 128) || decide (191 < b2)))))
def zb1 (s : ByteArray) (p : Nat) : Bool := zbs (s.size - p) (byt s p) (byt s (p + 1)) (byt s (p + 2))
theorem zeT {n n' b0 b1 b2 c1 c2 : Nat} (h : zbs n b0 b1 b2 = true) (hn : n <= n') (e1 : 1 < n -> c1 = b1) (e2 : 2 < n -> c2 = b2) : zbs n' b0 c1 c2 = true := by
 simp only [zbs, Bool.and_eq_true, Bool.or_eq_true, decide_eq_true_eq] at h ⊢; refine ⟨by omega, ?_⟩
 rcases h.2 with h1 | ⟨h1, h2⟩ | ⟨h1, h2⟩
 . exact .inl (by omega)
 . rw [e1 h1]; exact .inr (.inl ⟨by omega, h2⟩)
 rw [e2 h1]; exact .inr (.inr ⟨by omega, h2⟩)
theorem zbu (b : Nat) (h : b < 256) : (b < 128 /\ firstT b = 240) \/ (128 <= b /\ b < 194 /\ firstT b = 241) \/ (194 <= b /\ b < 224 /\ firstT b = 2) \/ (b = 224 /\ firstT b = 19) \/ (225 <= b /\ b < 240 /\ b ≠ 237 /\ firstT b = 3) \/ (b = 237 /\ firstT b = 35) \/
 (b = 240 /\ firstT b = 52) \/ (241 <= b /\ b < 244 /\ firstT b = 4) \/ (b = 244 /\ firstT b = 68) \/ (245 <= b /\ firstT b = 241) := by
 unfold firstT
 repeat' split
 all_goals omega
def leadW (b : Nat) : Nat := if b < 194 then 1 else if b < 224 then 2 else if b < 240 then 3 else if b < 245 then 4 else 1
theorem zcb {n b0 b1 b2 b3 : Nat} (h : (128 <= b0 /\ b0 < 194) \/ 245 <= b0) (h0 : b0 < 256) : decodeN n b0 b1 b2 b3 = (65533, 1) := by
 unfold decodeN
 repeat' split
 all_goals first | rfl | (exfalso; omega)
theorem zcD {n b0 b1 b2 b3 : Nat} (h : 194 <= b0) (h' : b0 < 224) : decodeN n b0 b1 b2 b3 = if 1 < n /\ b1 / 64 = 2 then (b0 % 32 * 64 + b1 % 64, 2) else (65533, 1) := by
 unfold decodeN
 repeat' split
 all_goals first | rfl | (exfalso; omega)
theorem zcL {n b0 b1 b2 b3 : Nat} (h : 224 <= b0) (h' : b0 < 240) : decodeN n b0 b1 b2 b3 =
 if 2 < n /\ b1 / 64 = 2 /\ b2 / 64 = 2 /\ (b0 = 224 -> 160 <= b1) /\ (b0 = 237 -> b1 < 160) then (b0 % 16 * 4096 + b1 % 64 * 64 + b2 % 64, 3) else (65533, 1) := by
 unfold decodeN
 repeat' split
 all_goals first | rfl | (exfalso; omega)
theorem zcI {n b0 b1 b2 b3 : Nat} (h : 240 <= b0) (h' : b0 < 245) : decodeN n b0 b1 b2 b3 =
 if 3 < n /\ b1 / 64 = 2 /\ b2 / 64 = 2 /\ b3 / 64 = 2 /\ (b0 = 240 -> 144 <= b1) /\ (b0 = 244 -> b1 < 144) then (b0 % 8 * 262144 + b1 % 64 * 4096 + b2 % 64 * 64 + b3 % 64, 4) else (65533, 1) := by
 unfold decodeN
 repeat' split
 all_goals first | rfl | (exfalso; omega)
theorem zhm {n b0 b1 b2 : Nat} (h : 194 <= b0) (h' : b0 < 224) (hb1 : b1 < 256) : zbs n b0 b1 b2 = decide (2 <= n) := by
 have hf : firstT b0 = 2 := by rcases zbu b0 (by omega) with h | h | h | h | h | h | h | h | h | h <;> omega
 rw [Bool.eq_iff_iff]; simp only [zbs, hf, Bool.and_eq_true, Bool.or_eq_true, decide_eq_true_eq]; omega
theorem zhg {n b0 b1 b2 : Nat} (h : 224 <= b0) (h' : b0 < 240) (hb1 : b1 < 256) : zbs n b0 b1 b2 = true ↔ 3 <= n \/ (2 <= n /\ ¬ (b1 / 64 = 2 /\ (b0 = 224 -> 160 <= b1) /\ (b0 = 237 -> b1 < 160))) := by
 rcases zbu b0 (by omega) with h | h | h | h | h | h | h | h | h | h <;> try omega
 . simp only [zbs, h.2, Bool.and_eq_true, Bool.or_eq_true, decide_eq_true_eq, accLo, accHi]
   simp; omega
 . simp only [zbs, h.2.2.2, Bool.and_eq_true, Bool.or_eq_true, decide_eq_true_eq, accLo, accHi]
   simp; omega
 simp only [zbs, h.2, Bool.and_eq_true, Bool.or_eq_true, decide_eq_true_eq, accLo, accHi]
 simp; omega
theorem zhn {n b0 b1 b2 : Nat} (h : 240 <= b0) (h' : b0 < 245) (hb1 : b1 < 256) : zbs n b0 b1 b2 = true ↔ 4 <= n \/ (2 <= n /\ ¬ (b1 / 64 = 2 /\ (b0 = 240 -> 144 <= b1) /\ (b0 = 244 -> b1 < 144))) \/ (3 <= n /\ ¬ b2 / 64 = 2) := by
 rcases zbu b0 (by omega) with h | h | h | h | h | h | h | h | h | h <;> try omega
 . simp only [zbs, h.2, Bool.and_eq_true, Bool.or_eq_true, decide_eq_true_eq, accLo, accHi]
   simp; omega
 . simp only [zbs, h.2.2, Bool.and_eq_true, Bool.or_eq_true, decide_eq_true_eq, accLo, accHi]
   simp; omega
 simp only [zbs, h.2, Bool.and_eq_true, Bool.or_eq_true, decide_eq_true_eq, accLo, accHi]
 simp; omega
theorem zei {n b0 b1 b2 : Nat} (h : b0 < 194 \/ 245 <= b0) (h0 : b0 < 256) (hn : 0 < n) : zbs n b0 b1 b2 = true := by
 rcases zbu b0 h0 with h | h | h | h | h | h | h | h | h | h <;> try omega
 all_goals
  simp only [zbs, Bool.and_eq_true, Bool.or_eq_true, decide_eq_true_eq]; omega
theorem zjG {n n' b0 b1 b2 b3 c1 c2 c3 : Nat} (h0 : b0 < 256) (hb1 : b1 < 256) (h : zbs n b0 b1 b2 = true) (hn : n <= n') (e1 : 1 < n -> c1 = b1) (e2 : 2 < n -> c2 = b2) (e3 : 3 < n -> c3 = b3) :
 decodeN n' b0 c1 c2 c3 = decodeN n b0 b1 b2 b3 := by
 by_cases g1 : b0 < 128
 . simp [decodeN, g1]
 by_cases g2 : b0 < 194
 . rw [zcb (.inl ⟨by omega, g2⟩) h0, zcb (.inl ⟨by omega, g2⟩) h0]
 by_cases g3 : b0 < 224
 . rw [zhm (by omega) g3 hb1] at h
   have h2 : 2 <= n := by simpa using h
   rw [zcD (by omega) g3, zcD (by omega) g3, e1 (by omega)]; have a : 1 < n' := by omega
   have b : 1 < n := by omega
   simp only [a, b, true_and]
 by_cases g4 : b0 < 240
 . rw [zhg (by omega) g4 hb1] at h
   rw [zcL (by omega) g4, zcL (by omega) g4]
   rcases h with h | ⟨h, hh⟩
   . rw [e1 (by omega), e2 (by omega)]
     have a : 2 < n' := by omega
     have b : 2 < n := by omega
     simp only [a, b, true_and]
   rw [e1 (by omega)]
   rw [if_neg (fun k => hh ⟨k.2.1, k.2.2.2⟩), if_neg (fun k => hh ⟨k.2.1, k.2.2.2⟩)]
 by_cases g5 : b0 < 245
 . rw [zhn (by omega) g5 hb1] at h
   rw [zcI (by omega) g5, zcI (by omega) g5]
   rcases h with h | ⟨h, hh⟩ | ⟨h, hh⟩
   . rw [e1 (by omega), e2 (by omega), e3 (by omega)]
     have a : 3 < n' := by omega
     have b : 3 < n := by omega
     simp only [a, b, true_and]
   . rw [e1 (by omega)]
     rw [if_neg (fun k => hh ⟨k.2.1, k.2.2.2.2⟩), if_neg (fun k => hh ⟨k.2.1, k.2.2.2.2⟩)]
   rw [e2 (by omega)]
   rw [if_neg (fun k => hh k.2.2.1), if_neg (fun k => hh k.2.2.1)]
 rw [zcb (.inr (by omega)) h0, zcb (.inr (by omega)) h0]
end Go.Proofs.YtghpmhllpaheiaaGreatDoor
namespace Go.Proofs.YtghpmhllpaheiaaGreatDoor
open Go.Lib (firstT accLo accHi decodeN)
theorem zbR (s : ByteArray) (p : Nat) : byt s p < 256 := (s.get! p).toNat_lt
theorem zbn (s : ByteArray) (m i : Nat) (hm : m <= s.size) (hi : i < m) : byt (s.extract 0 m) i = byt s i := by
 unfold byt; congr 1; simp only [ByteArray.get!]; rw [getElem!_def, getElem!_def]; have e : (s.extract 0 m).data[i]? = s.data[i]? := by
  rw [ByteArray.data_extract, Array.getElem?_extract]; have hz : s.data.size = s.size := rfl; rw [if_pos (by omega), Nat.zero_add]
 rw [e]
theorem zbk (s : ByteArray) (m : Nat) (hm : m <= s.size) : (s.extract 0 m).size = m := by simp; omega
theorem zdt (s : ByteArray) (p : Nat) : Utf8.decode s p = decodeN (s.size - p) (byt s p) (byt s (p + 1)) (byt s (p + 2)) (byt s (p + 3)) := Lib.decode_at s p
def zbL (cuts : List Int) (c : Int) : Nat := cuts.countP (fun x => decide (x <= c)) - 1
def zbQ (T : Tab) (set : Nat) (c : Int) : Int := (T.goes.getD set []).getD (zbL T.cuts c) (-1)
structure Run where
 set : Nat
 alive : Nat
 long : Nat
 rule : Int
def zaT (T : Tab) (s : ByteArray) (set p : Nat) : Bool :=
 decide (p < s.size) && (zb1 s p && (!decide (Utf8.decode s p = (65533, 1)) && decide (0 <= zbQ T set (Utf8.decode s p).1)))
def zcT (T : Tab) (s : ByteArray) (x : Run) : Run :=
 if 0 <= T.rule.getD (zbQ T x.set (Utf8.decode s x.alive).1).toNat (-1) then
  ⟨(zbQ T x.set (Utf8.decode s x.alive).1).toNat, x.alive + (Utf8.decode s x.alive).2, x.alive + (Utf8.decode s x.alive).2, T.rule.getD (zbQ T x.set (Utf8.decode s x.alive).1).toNat (-1)⟩
 else ⟨(zbQ T x.set (Utf8.decode s x.alive).1).toNat, x.alive + (Utf8.decode s x.alive).2, x.long, x.rule⟩
def runT (T : Tab) (s : ByteArray) : Nat -> Run -> Run
 | 0, x => x
 | f + 1, x => if zaT T s x.set x.alive = true then runT T s f (zcT T s x) else x
def zhO (T : Tab) (set : Nat) (lo hi : Int) (k : Nat) : Bool :=
 decide (0 <= (T.goes.getD set []).getD k (-1)) && decide (max lo (T.cuts.getD k 0) <= min hi (if k + 1 < T.cuts.length then T.cuts.getD (k + 1) 0 - 1 else 1114111))
def hitT (T : Tab) (set : Nat) (lo hi : Int) : Bool := (List.range (T.goes.getD set []).length).any (zhO T set lo hi)
def zcE (b : Nat) : Nat := if 240 <= b then 4 else if 224 <= b then 3 else 2
def zep (w : Nat) : Nat := if w = 2 then 128 else if w = 3 then 2048 else 65536
def zdo (n b0 b1 b2 : Nat) : Nat :=
 if n = 1 then b0 % 2 ^ (7 - zcE b0) else if n = 2 then b0 % 2 ^ (7 - zcE b0) * 64 + b1 % 64 else (b0 % 2 ^ (7 - zcE b0) * 64 + b1 % 64) * 64 + b2 % 64
def zb7 (T : Tab) (set n b0 b1 b2 : Nat) : Bool :=
 hitT T set (max ((zdo n b0 b1 b2 * 64 ^ (zcE b0 - n) : Nat) : Int) (zep (zcE b0))) (((zdo n b0 b1 b2 + 1) * 64 ^ (zcE b0 - n) : Nat) - 1)
def zbc (T : Tab) (set n m b0 b1 b2 : Nat) : Bool := decide (n <= m) && (!zbs n b0 b1 b2 && zb7 T set n b0 b1 b2)
def zdw (T : Tab) (set m b0 b1 b2 : Nat) : Nat :=
 if zbc T set 1 m b0 b1 b2 = true then (if zbc T set 2 m b0 b1 b2 = true then (if zbc T set 3 m b0 b1 b2 = true then 3 else 2) else 1) else 0
def zd8 (T : Tab) (s : ByteArray) (set p : Nat) : Nat := zdw T set (s.size - p) (byt s p) (byt s (p + 1)) (byt s (p + 2))
structure WfT (T : Tab) (R : Nat) : Prop where
 rise : T.cuts.Pairwise (· < ·)
 head : T.cuts.head? = some 0
 top : ∀ c ∈ T.cuts, c <= 1114111
 some' : 0 < T.goes.length
 rules : T.rule.length = T.goes.length
 rows : ∀ r ∈ T.goes, r.length = T.cuts.length
 cells : ∀ r ∈ T.goes, ∀ x ∈ r, -1 <= x /\ x < T.goes.length
 ruleR : ∀ x ∈ T.rule, -1 <= x /\ x < R
theorem zdh {cuts : List Int} {c : Int} (hr : cuts.Pairwise (· < ·)) (hh : cuts.head? = some 0) (hc : 0 <= c) :
 zbL cuts c < cuts.length /\ cuts.getD (zbL cuts c) 0 <= c /\ (zbL cuts c + 1 < cuts.length -> c < cuts.getD (zbL cuts c + 1) 0) := by
 have key : ∀ (l : List Int), l.Pairwise (· < ·) -> ∀ i, i < l.length -> (i < l.countP (fun x => decide (x <= c)) ↔ l.getD i 0 <= c) := by
  intro l
  induction l with
  | nil => intro _ i hi; simp at hi
  | cons y l ih =>
   intro hp i hi; obtain ⟨h1, h2⟩ := List.pairwise_cons.1 hp; have hz : ¬ y <= c -> l.countP (fun x => decide (x <= c)) = 0 := by
    intro hy; rw [List.countP_eq_zero]; intro x hx; have := h1 x hx; simp; omega
   cases i with
   | zero =>
    simp only [List.getD_cons_zero, List.countP_cons]; by_cases hy : y <= c
    . simp [hy]
    . simp [hy, hz hy]
   | succ i =>
    simp only [List.getD_cons_succ, List.countP_cons]; have := ih h2 i (by simpa using hi); by_cases hy : y <= c
    . simp [hy]; exact this
    have h0 := hz hy
    rw [h0] at this ⊢; simp [hy]; have hm : l.getD i 0 ∈ l := by
     rw [List.getD_eq_getElem?_getD, List.getElem?_eq_getElem (by simpa using hi)]; simp
    have := h1 _ hm; rw [List.getD_eq_getElem?_getD] at this; omega
 have hlen : 0 < cuts.length := by cases cuts <;> simp_all
 have h0 : cuts.getD 0 0 = 0 := by cases cuts <;> simp_all
 have hle := List.countP_le_length (l := cuts) (p := fun x => decide (x <= c)); have hpos := (key cuts hr 0 hlen).2 (by omega); unfold zbL; refine ⟨by omega, (key cuts hr _ (by omega)).1 (by omega), fun h => ?_⟩; have := (key cuts hr (cuts.countP (fun x => decide (x <= c)) - 1 + 1) h); omega
theorem zhZ {T : Tab} {set : Nat} {k : Nat} (h : 0 <= (T.goes.getD set []).getD k (-1)) : T.goes.getD set [] ∈ T.goes /\ k < (T.goes.getD set []).length := by
 constructor
 . cases hg : T.goes[set]? with
   | none => rw [List.getD_eq_getElem?_getD (l := T.goes), hg] at h; simp at h
   | some r => rw [List.getD_eq_getElem?_getD, hg]; exact List.mem_of_getElem? hg
 rcases Nat.lt_or_ge k (T.goes.getD set []).length with h1 | h1
 . exact h1
 rw [List.getD_eq_getElem?_getD (l := T.goes.getD set []), List.getElem?_eq_none h1] at h
 simp at h
theorem begins_of {T : Tab} {R set n k b0 b1 b2 b3 c w : Nat} (hT : WfT T R) (h0 : b0 < 256) (hd : decodeN n b0 b1 b2 b3 = (c, w)) (hv : ¬ (c = 65533 /\ w = 1)) (hk : 0 < k) (hkw : k < w) (hg : 0 <= zbQ T set c) :
 zb7 T set k b0 b1 b2 = true := by
 have hf := zdh hT.rise hT.head (c := (c : Int)) (by omega); have hm := zhZ hg; generalize hj : zbL T.cuts c = j at *; have hlow : (zdo k b0 b1 b2 * 64 ^ (zcE b0 - k)) <= c /\ c + 1 <= (zdo k b0 b1 b2 + 1) * 64 ^ (zcE b0 - k) /\ zep (zcE b0) <= c /\ c <= 1114111 := by
  by_cases g1 : b0 < 128
  . simp only [decodeN, if_pos g1] at hd; cases hd; omega
  by_cases g2 : b0 < 194
  . rw [zcb (.inl ⟨by omega, g2⟩) h0] at hd; cases hd; simp at hv
  by_cases g3 : b0 < 224
  . rw [zcD (by omega) g3] at hd
    split at hd
    . cases hd
      have : k = 1 := by omega
      subst this; have hl : zcE b0 = 2 := by unfold zcE; rw [if_neg (by omega), if_neg (by omega)]
      simp only [zdo, hl, zep]; simp; omega
    cases hd; simp at hv
  by_cases g4 : b0 < 240
  . rw [zcL (by omega) g4] at hd
    split at hd
    . cases hd
      have hl : zcE b0 = 3 := by unfold zcE; rw [if_neg (by omega), if_pos (by omega)]
      have : k = 1 \/ k = 2 := by omega
      rcases this with rfl | rfl
      . simp only [zdo, hl, zep]; simp; omega
      simp only [zdo, hl, zep]; simp; omega
    cases hd; simp at hv
  by_cases g5 : b0 < 245
  . rw [zcI (by omega) g5] at hd
    split at hd
    . cases hd
      have hl : zcE b0 = 4 := by unfold zcE; rw [if_pos (by omega)]
      have : k = 1 \/ k = 2 \/ k = 3 := by omega
      rcases this with rfl | rfl | rfl
      . simp only [zdo, hl, zep]; simp; omega
      . simp only [zdo, hl, zep]; simp; omega
      simp only [zdo, hl, zep]; simp; omega
    cases hd; simp at hv
  rw [zcb (.inr (by omega)) h0] at hd; cases hd; simp at hv
 unfold zb7 hitT; rw [List.any_eq_true]; refine ⟨j, List.mem_range.2 (by unfold zbQ at hg; rw [hj] at hg; exact (zhZ hg).2), ?_⟩; unfold zhO; simp only [Bool.and_eq_true, decide_eq_true_eq]; refine ⟨by unfold zbQ at hg; rw [hj] at hg; exact hg, ?_⟩; have hrl : (if j + 1 < T.cuts.length then T.cuts.getD (j + 1) 0 - 1 else 1114111) ≥ (c : Int) := by
  split
  . have := hf.2.2 (by assumption); omega
  omega
 generalize zdo k b0 b1 b2 * 64 ^ (zcE b0 - k) = lo at *; generalize (zdo k b0 b1 b2 + 1) * 64 ^ (zcE b0 - k) = hi at *; omega
theorem zka {s : ByteArray} {m p : Nat} (hm : m <= s.size) (hp : p < m) (h : zb1 (s.extract 0 m) p = true) : zb1 s p = true := by
 unfold zb1 at h ⊢; rw [zbk s m hm] at h; refine zeT ?_ (by omega : m - p <= s.size - p) (fun _ => rfl) (fun _ => rfl); rw [zbn s m p hm hp] at h; refine zeT h (Nat.le_refl _) (fun h => ?_) (fun h => ?_)
 . rw [zbn s m _ hm (by omega)]
 rw [zbn s m _ hm (by omega)]
theorem zfD {s : ByteArray} {m p : Nat} (hm : m <= s.size) (hp : p < m) (h : zb1 (s.extract 0 m) p = true) : Utf8.decode s p = Utf8.decode (s.extract 0 m) p := by
 rw [zdt, zdt]; unfold zb1 at h; rw [zbk s m hm] at h ⊢; rw [<- zbn s m p hm hp]; refine zjG (zbR _ _) (zbR _ _) h (by omega) (fun h => ?_) (fun h => ?_) (fun h => ?_)
 . rw [zbn s m _ hm (by omega)]
 . rw [zbn s m _ hm (by omega)]
 rw [zbn s m _ hm (by omega)]
theorem zkO {T : Tab} {s : ByteArray} {m set p : Nat} (hm : m <= s.size) (h : zaT T (s.extract 0 m) set p = true) : zaT T s set p = true /\ Utf8.decode s p = Utf8.decode (s.extract 0 m) p /\ p < m := by
 simp only [zaT, Bool.and_eq_true, decide_eq_true_eq] at h ⊢; rw [zbk s m hm] at h; obtain ⟨h1, h2, h3, h4⟩ := h; have hd := zfD hm h1 h2; rw [hd]; exact ⟨⟨by omega, zka hm h1 h2, h3, h4⟩, rfl, h1⟩
theorem zci {T : Tab} {s : ByteArray} {set p : Nat} (h : zaT T s set p = true) : p + (Utf8.decode s p).2 <= s.size /\ 1 <= (Utf8.decode s p).2 /\ (Utf8.decode s p).2 <= 4 := by
 simp only [zaT, Bool.and_eq_true, decide_eq_true_eq, Bool.not_eq_true', decide_eq_false_iff_not] at h; obtain ⟨x, k, hx, hh⟩ := zcd s p h.1 (fun e => h.2.2.1 (Prod.ext e.1 e.2)); rw [hx]; show p + k <= s.size /\ 1 <= k /\ k <= 4; omega
theorem zbx (T : Tab) (s : ByteArray) (x : Run) : (zcT T s x).alive = x.alive + (Utf8.decode s x.alive).2 := by
 unfold zcT; split <;> rfl
theorem zf9 {T : Tab} {s : ByteArray} {m : Nat} {x : Run} (h : Utf8.decode s x.alive = Utf8.decode (s.extract 0 m) x.alive) : zcT T (s.extract 0 m) x = zcT T s x := by
 unfold zcT; rw [h]
theorem zeO {T : Tab} {s : ByteArray} : ∀ (f : Nat) (x : Run), s.size < f + x.alive -> zaT T s (runT T s f x).set (runT T s f x).alive = false
 | 0, x, h => by
  rw [runT]; simp [zaT]; omega
 | f + 1, x, h => by
  rw [runT]; split
  . rename_i hg
    exact zeO f _ (by rw [zbx]; have := zci hg; omega)
  rename_i hg; simpa using hg
theorem zdC {T : Tab} {s : ByteArray} : ∀ (f : Nat) (x : Run), x.alive <= s.size -> (runT T s f x).alive <= s.size /\ x.alive <= (runT T s f x).alive
 | 0, x, h => by rw [runT]; exact ⟨h, Nat.le_refl _⟩
 | f + 1, x, h => by
  rw [runT]; split
  . rename_i hg
    have hl := zci hg; have := zdC (T := T) (s := s) f (zcT T s x) (by rw [zbx]; omega); have e := zbx T s x; omega
  exact ⟨h, Nat.le_refl _⟩
theorem ziB {T : Tab} {s : ByteArray} : ∀ (f g : Nat) (x : Run), s.size < f + x.alive -> f <= g -> runT T s g x = runT T s f x
 | 0, g, x, h, _ => by
  have hx : zaT T s x.set x.alive = false := by simp [zaT]; omega
  cases g with
  | zero => rfl
  | succ g => rw [runT, runT, if_neg (by simp [hx])]
 | f + 1, g, x, h, hg => by
  obtain ⟨g, rfl⟩ : ∃ k, g = k + 1 := ⟨g - 1, by omega⟩; rw [runT, runT]; split
  . rename_i hgo
    exact ziB f g _ (by rw [zbx]; have := zci hgo; omega) (by omega)
  rfl
theorem zf2 {T : Tab} {s : ByteArray} {m : Nat} (hm : m <= s.size) : ∀ (f g : Nat) (x : Run), x.alive <= m -> s.size < g + x.alive -> runT T s g (runT T (s.extract 0 m) f x) = runT T s g x
 | 0, g, x, _, _ => by rw [runT]
 | f + 1, g, x, hx, hg => by
  rw [runT]; split
  . rename_i hgo
    obtain ⟨h1, h2, h3⟩ := zkO hm hgo; have hle := zci hgo; rw [zbk s m hm, <- h2] at hle; have e := zf2 (T := T) (s := s) hm f g (zcT T (s.extract 0 m) x) (by rw [zf9 h2, zbx]; omega) (by rw [zf9 h2, zbx]; omega); rw [e, zf9 h2]; obtain ⟨g, rfl⟩ : ∃ k, g = k + 1 := ⟨g - 1, by omega⟩
    conv => rhs; rw [runT, if_pos h1]
    exact ziB g (g + 1) _ (by rw [zbx]; omega) (by omega)
  rfl
end Go.Proofs.YtghpmhllpaheiaaGreatDoor
namespace Go.Proofs.YtghpmhllpaheiaaGreatDoor
open Go.Lib (firstT accLo accHi decodeN)
def zbi (T : Tab) (s : ByteArray) (x : Run) : Nat := x.alive + zd8 T s x.set x.alive
theorem zhS (T : Tab) (set m b0 b1 b2 : Nat) : zdw T set m b0 b1 b2 <= m := by
 unfold zdw; split
 . rename_i h1
   have g1 : 1 <= m := by simp [zbc] at h1; omega
   split
   . rename_i h2
     have g2 : 2 <= m := by simp [zbc] at h2; omega
     split
     . rename_i h3
       simp [zbc] at h3; omega
     exact g2
   exact g1
 exact Nat.zero_le _
theorem zcr {T : Tab} {set n m m' b0 b1 b2 c1 c2 : Nat} (hm : m <= m') (e1 : 1 < m -> c1 = b1) (e2 : 2 < m -> c2 = b2) (hn : n <= 3) (hn0 : 0 < n) (h : zbc T set n m b0 b1 b2 = true) : zbc T set n m' b0 c1 c2 = true := by
 simp only [zbc, Bool.and_eq_true, decide_eq_true_eq, Bool.not_eq_true'] at h ⊢; obtain ⟨h1, h2, h3⟩ := h; have : n = 1 \/ n = 2 \/ n = 3 := by omega
 refine ⟨by omega, ?_, ?_⟩
 . rcases this with rfl | rfl | rfl
   . simpa [zbs] using h2
   . rw [e1 (by omega)]; simpa [zbs] using h2
   rw [e1 (by omega), e2 (by omega)]; exact h2
 rcases this with rfl | rfl | rfl
 . simpa [zb7, zdo] using h3
 . rw [e1 (by omega)]; simpa [zb7, zdo] using h3
 rw [e1 (by omega), e2 (by omega)]; exact h3
theorem zld {T : Tab} {set m m' b0 b1 b2 c1 c2 : Nat} (hm : m <= m') (e1 : 1 < m -> c1 = b1) (e2 : 2 < m -> c2 = b2) : zdw T set m b0 b1 b2 <= zdw T set m' b0 c1 c2 := by
 unfold zdw; split
 . rename_i h1
   rw [if_pos (zcr hm e1 e2 (by omega) (by omega) h1)]; split
   . rename_i h2
     rw [if_pos (zcr hm e1 e2 (by omega) (by omega) h2)]; split
     . rename_i h3
       rw [if_pos (zcr hm e1 e2 (by omega) (by omega) h3)]; omega
     split <;> omega
   split
   . split <;> omega
   omega
 omega
theorem zlc {T : Tab} {set m m' b0 b1 b2 c1 c2 : Nat} (hm : m <= m') (e1 : 1 < m -> c1 = b1) (e2 : 2 < m -> c2 = b2) (h : zdw T set m b0 b1 b2 < m) : zdw T set m' b0 c1 c2 = zdw T set m b0 b1 b2 := by
 have back : ∀ n, 0 < n -> n <= 3 -> n <= m -> zbc T set n m' b0 c1 c2 = true -> zbc T set n m b0 b1 b2 = true := by
  intro n hn hn3 hnm hk; simp only [zbc, Bool.and_eq_true, decide_eq_true_eq, Bool.not_eq_true'] at hk ⊢; obtain ⟨h1, h2, h3⟩ := hk; have : n = 1 \/ n = 2 \/ n = 3 := by omega
  refine ⟨by omega, ?_, ?_⟩
  . rcases this with rfl | rfl | rfl
    . simpa [zbs] using h2
    . rw [e1 (by omega)] at h2; simpa [zbs] using h2
    rw [e1 (by omega), e2 (by omega)] at h2; exact h2
  rcases this with rfl | rfl | rfl
  . simpa [zb7, zdo] using h3
  . rw [e1 (by omega)] at h3; simpa [zb7, zdo] using h3
  rw [e1 (by omega), e2 (by omega)] at h3; exact h3
 unfold zdw at h ⊢; by_cases k1 : zbc T set 1 m b0 b1 b2 = true
 . rw [if_pos k1] at h
   rw [if_pos k1, if_pos (zcr hm e1 e2 (by omega) (by omega) k1)]; by_cases k2 : zbc T set 2 m b0 b1 b2 = true
   . rw [if_pos k2] at h
     rw [if_pos k2, if_pos (zcr hm e1 e2 (by omega) (by omega) k2)]; by_cases k3 : zbc T set 3 m b0 b1 b2 = true
     . rw [if_pos k3, if_pos (zcr hm e1 e2 (by omega) (by omega) k3)]
     rw [if_neg k3] at h
     rw [if_neg k3, if_neg (fun e => k3 (back 3 (by omega) (by omega) (by omega) e))]
   rw [if_neg k2] at h
   rw [if_neg k2, if_neg (fun e => k2 (back 2 (by omega) (by omega) (by omega) e))]
 rw [if_neg k1] at h
 rw [if_neg k1, if_neg (fun e => k1 (back 1 (by omega) (by omega) (by omega) e))]
theorem zha {n k b0 b1 b2 b3 c w : Nat} (h0 : b0 < 256) (hb1 : b1 < 256) (hd : decodeN n b0 b1 b2 b3 = (c, w)) (hv : ¬ (c = 65533 /\ w = 1)) (hk : w <= k) (hk0 : 0 < k) : zbs k b0 b1 b2 = true := by
 by_cases g1 : b0 < 194
 . exact zei (.inl g1) h0 hk0
 by_cases g3 : b0 < 224
 . rw [zcD (by omega) g3] at hd
   split at hd
   . cases hd; rw [zhm (by omega) g3 hb1]; simpa using hk
   cases hd; simp at hv
 by_cases g4 : b0 < 240
 . rw [zcL (by omega) g4] at hd
   split at hd
   . cases hd; exact (zhg (by omega) g4 hb1).2 (.inl hk)
   cases hd; simp at hv
 by_cases g5 : b0 < 245
 . rw [zcI (by omega) g5] at hd
   split at hd
   . cases hd; exact (zhn (by omega) g5 hb1).2 (.inl hk)
   cases hd; simp at hv
 exact zei (.inr (by omega)) h0 hk0
theorem zet {n b0 b1 b2 : Nat} (h0 : b0 < 256) (h : zbs n b0 b1 b2 = false) : n <= 3 := by
 rcases Nat.lt_or_ge 3 n with h1 | h1
 . have : firstT b0 % 8 <= 4 := by rcases zbu b0 h0 with h | h | h | h | h | h | h | h | h | h <;> omega
   have : zbs n b0 b1 b2 = true := by
    simp only [zbs, Bool.and_eq_true, Bool.or_eq_true, decide_eq_true_eq]; exact ⟨by omega, .inl (by omega)⟩
   rw [this] at h; cases h
 exact h1
theorem amid {T : Tab} {R : Nat} (hT : WfT T R) {s : ByteArray} {m set p : Nat} (hm : m <= s.size) (hp : p <= m) (hB : zaT T (s.extract 0 m) set p = false) (hs : zaT T s set p = true) :
 zd8 T (s.extract 0 m) set p = m - p /\ m < p + (Utf8.decode s p).2 := by
 simp only [zaT, Bool.and_eq_true, decide_eq_true_eq, Bool.not_eq_true', decide_eq_false_iff_not] at hs; obtain ⟨h1, h2, h3, h4⟩ := hs
 rcases Nat.lt_or_ge p m with hlt | hge
 . by_cases hf : zb1 (s.extract 0 m) p = true
   . have hd := zfD hm hlt hf
     exfalso; have : zaT T (s.extract 0 m) set p = true := by
      simp only [zaT, Bool.and_eq_true, decide_eq_true_eq, Bool.not_eq_true', decide_eq_false_iff_not]; rw [zbk s m hm, <- hd]; exact ⟨hlt, hf, h3, h4⟩
     rw [this] at hB; cases hB
   have hf' : zb1 (s.extract 0 m) p = false := by simpa using hf
   have hdd := zdt s p
   rcases hx : Utf8.decode s p with ⟨c, w⟩
   rw [hx] at h3 h4 hdd; have hd := hdd.symm; have hv : ¬ (c = 65533 /\ w = 1) := fun e => h3 (by rw [e.1, e.2]); unfold zb1 at hf'; rw [zbk s m hm, zbn s m p hm hlt] at hf'; have hn3 := zet (zbR _ _) hf'; have hw : m - p < w := by
    rcases Nat.lt_or_ge (m - p) w with h | h
    . exact h
    exfalso
    have hk := zha (zbR _ _) (zbR _ _) hd hv h (by omega); have : zbs (m - p) (byt s p) (byt (s.extract 0 m) (p + 1)) (byt (s.extract 0 m) (p + 2)) = true :=
     zeT hk (Nat.le_refl _) (fun h => zbn s m _ hm (by omega)) (fun h => zbn s m _ hm (by omega))
    rw [this] at hf'; cases hf'
   refine ⟨?_, by omega⟩; have ok : ∀ k, 0 < k -> k <= m - p -> zbc T set k (m - p) (byt s p) (byt (s.extract 0 m) (p + 1)) (byt (s.extract 0 m) (p + 2)) = true := by
    intro k hk hkm; have hb := begins_of (n := s.size - p) (b3 := byt s (p + 3)) hT (zbR s p) hd hv hk (by omega) h4; simp only [zbc, Bool.and_eq_true, decide_eq_true_eq, Bool.not_eq_true']; refine ⟨hkm, ?_, ?_⟩
    . cases hff : zbs k (byt s p) (byt (s.extract 0 m) (p + 1)) (byt (s.extract 0 m) (p + 2)) with
      | false => rfl
      | true => rw [zeT hff hkm (fun _ => rfl) (fun _ => rfl)] at hf'; cases hf'
    have : k = 1 \/ k = 2 \/ k = 3 := by omega
    rcases this with rfl | rfl | rfl
    . simpa [zb7, zdo] using hb
    . rw [zbn s m (p + 1) hm (by omega)]; simpa [zb7, zdo] using hb
    rw [zbn s m (p + 1) hm (by omega), zbn s m (p + 2) hm (by omega)]; exact hb
   unfold zd8 zdw; rw [zbk s m hm, zbn s m p hm hlt]; have hno : ∀ k, m - p < k -> ¬ zbc T set k (m - p) (byt s p) (byt (s.extract 0 m) (p + 1)) (byt (s.extract 0 m) (p + 2)) = true := by
    intro k hk e; simp [zbc] at e; omega
   have : m - p = 1 \/ m - p = 2 \/ m - p = 3 := by omega
   rcases this with e | e | e
   . rw [if_pos (ok 1 (by omega) (by omega)), if_neg (hno 2 (by omega))]; omega
   . rw [if_pos (ok 1 (by omega) (by omega)), if_pos (ok 2 (by omega) (by omega)), if_neg (hno 3 (by omega))]; omega
   rw [if_pos (ok 1 (by omega) (by omega)), if_pos (ok 2 (by omega) (by omega)), if_pos (ok 3 (by omega) (by omega))]; omega
 have : p = m := by omega
 subst this; have hl := zci (T := T) (s := s) (set := set) (p := p) (by simp only [zaT, Bool.and_eq_true, decide_eq_true_eq, Bool.not_eq_true', decide_eq_false_iff_not]; exact ⟨h1, h2, h3, h4⟩); refine ⟨?_, by omega⟩; have := zhS T set ((s.extract 0 p).size - p) (byt (s.extract 0 p) p) (byt (s.extract 0 p) (p + 1)) (byt (s.extract 0 p) (p + 2)); rw [zbk s p hm] at this; unfold zd8; rw [zbk s p hm]; omega
theorem zdV {T : Tab} {s : ByteArray} {x : Run} (h : x.alive <= s.size) : zbi T s x <= s.size := by
 have := zhS T x.set (s.size - x.alive) (byt s x.alive) (byt s (x.alive + 1)) (byt s (x.alive + 2)); unfold zbi zd8; omega
theorem zgK {T : Tab} {s : ByteArray} (g : Nat) {x : Run} (h : zaT T s x.set x.alive = false) : runT T s g x = x := by
 cases g with
 | zero => rfl
 | succ g => rw [runT, if_neg (by simp [h])]
theorem zlb {T : Tab} {R : Nat} (hT : WfT T R) {s : ByteArray} {m f g : Nat} {x : Run} (hm : m <= s.size) (hx : x.alive <= m) (hf : m < f + x.alive) (hg : s.size < g + x.alive) :
 zbi T (s.extract 0 m) (runT T (s.extract 0 m) f x) <= zbi T s (runT T s g x) := by
 have hsz := zbk s m hm; have hst := zeO (T := T) (s := s.extract 0 m) f x (by omega); have hle := zdC (T := T) (s := s.extract 0 m) f x (by omega); rw [<- zf2 (T := T) hm f g x hx hg]; generalize runT T (s.extract 0 m) f x = y at *; rw [hsz] at hle; by_cases hs : zaT T s y.set y.alive = true
 . have ha := amid hT hm hle.1 hst hs
   have hl := zci hs; have hal := zdV (T := T) (s := s.extract 0 m) (x := y) (by omega); cases g with
   | zero => omega
   | succ g =>
    rw [runT, if_pos hs]; have := (zdC (T := T) (s := s) g (zcT T s y) (by rw [zbx]; omega)).2; rw [zbx] at this; unfold zbi at hal ⊢; omega
 have hs' : zaT T s y.set y.alive = false := by simpa using hs
 rw [zgK g hs']; unfold zbi zd8; rw [hsz]
 rcases Nat.lt_or_ge y.alive m with h | h
 . rw [zbn s m _ hm h]
   have := zld (T := T) (set := y.set) (b0 := byt s y.alive) (b1 := byt (s.extract 0 m) (y.alive + 1)) (b2 := byt (s.extract 0 m) (y.alive + 2)) (c1 := byt s (y.alive + 1)) (c2 := byt s (y.alive + 2))
    (by omega : m - y.alive <= s.size - y.alive) (fun h => (zbn s m _ hm (by omega)).symm) (fun h => (zbn s m _ hm (by omega)).symm)
   omega
 have := zhS T y.set (m - y.alive) (byt (s.extract 0 m) y.alive) (byt (s.extract 0 m) (y.alive + 1)) (byt (s.extract 0 m) (y.alive + 2))
 omega
theorem zk9 {T : Tab} {R : Nat} (hT : WfT T R) {s : ByteArray} {m f g : Nat} {x : Run} (hm : m <= s.size) (hx : x.alive <= m) (hf : m < f + x.alive) (hg : s.size < g + x.alive)
 (ha : zbi T (s.extract 0 m) (runT T (s.extract 0 m) f x) < m) : runT T s g x = runT T (s.extract 0 m) f x /\ zbi T s (runT T s g x) = zbi T (s.extract 0 m) (runT T (s.extract 0 m) f x) := by
 have hsz := zbk s m hm; have hst := zeO (T := T) (s := s.extract 0 m) f x (by omega); have hle := zdC (T := T) (s := s.extract 0 m) f x (by omega); rw [<- zf2 (T := T) hm f g x hx hg]; generalize runT T (s.extract 0 m) f x = y at *; rw [hsz] at hle; by_cases hs : zaT T s y.set y.alive = true
 . have h := amid hT hm hle.1 hst hs
   unfold zbi at ha; omega
 have hs' : zaT T s y.set y.alive = false := by simpa using hs
 rw [zgK g hs']; refine ⟨rfl, ?_⟩; unfold zbi zd8 at ha ⊢; rw [hsz] at ha ⊢; have hlt : y.alive < m := by omega
 rw [zbn s m _ hm hlt] at ha ⊢; have := zlc (T := T) (set := y.set) (b0 := byt s y.alive) (b1 := byt (s.extract 0 m) (y.alive + 1)) (b2 := byt (s.extract 0 m) (y.alive + 2)) (c1 := byt s (y.alive + 1)) (c2 := byt s (y.alive + 2))
  (by omega : m - y.alive <= s.size - y.alive) (fun h => (zbn s m _ hm (by omega)).symm) (fun h => (zbn s m _ hm (by omega)).symm) (by omega)
 omega
inductive Nx where
 | err (e : Nat)
 | tok (rule : Int) (len : Nat)
 deriving DecidableEq
def run0 : Run := ⟨0, 0, 0, -1⟩
def zcf (T : Tab) (C : Nat) (s : ByteArray) (why : Nat) : Nx :=
 let x := runT T s (s.size + 1) run0
 if C <= zbi T s x then .err 10
 else if zbi T s x = s.size /\ why ≠ 13 then .err why
 else if s.size = 0 then .err 13
 else if x.rule < 0 then (if zb1 s 0 = false /\ why ≠ 13 then .err why else .tok (-1) (Utf8.decode s 0).2)
 else .tok x.rule x.long
end Go.Proofs.YtghpmhllpaheiaaGreatDoor
