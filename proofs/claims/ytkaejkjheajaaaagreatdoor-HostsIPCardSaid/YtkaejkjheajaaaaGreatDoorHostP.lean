/-
  Plain laws on lists of bytes: what the packages percent and hosts compute, with no program in sight. No condition.
-/
import Derived.Test.YtkaejkjheajaaaaGreatDoorPlain
import Derived.Lib.ParseIntB
namespace Lz
open Go

/-- What a digit to the base 16 is worth. -/
def hexV (c : UInt8) : Option Nat := if isDigit c then some (c.toNat - 48) else if 97 ≤ (c ||| 32).toNat ∧ (c ||| 32).toNat ≤ 102 then some ((c ||| 32).toNat - 87) else none
/-- What digits are worth, behind those that are worth n; at most 2^40. -/
def numF (base : Nat) : Nat → Bs → Option Nat
  | n, [] => some n
  | n, c :: r => match hexV c with
    | none => none
    | some d => if base ≤ d then none else numF base (min (n * base + d) 1099511627776) r
/-- What a label is worth. -/
def numP (s : Bs) : Option Nat :=
  if Lib.hasPrefix (low s) [48, 120] then numF 16 0 (48 :: (low s).drop 2)
  else if 1 < s.length ∧ s[0]? = some 48 then numF 8 0 (s.drop 1)
  else if s = [] then none else numF 10 0 s
/-- What stands between dots. -/
def labelsP (s : Bs) : List Bs := if 1 < (splitC 46 s).length ∧ (splitC 46 s).getLast? = some [] then (splitC 46 s).dropLast else splitC 46 s
/-- Does a text end in a number? -/
def numberedP (s : Bs) : Bool := (allB isDigit ((labelsP s).getLastD [])) || (numP ((labelsP s).getLastD [])).isSome
/-- The bytes of labels, of which there are n in all. -/
def fourB (n : Nat) : List Bs → Option (List Nat)
  | [] => some []
  | s :: r => match numP s with
    | none => none
    | some v =>
      let many := if r = [] then 5 - n else 1
      if 0 < v / 256 ^ many then none else (fourB n r).map fun t => ((List.range many).reverse.map fun k => v / 256 ^ k % 256) ++ t
/-- Texts with something between each two. -/
def joinP (sep : Bs) : List Bs → Bs
  | [] => []
  | [x] => x
  | x :: y :: r => x ++ sep ++ joinP sep (y :: r)
def dottedP (b : List Nat) : Bs := joinP [46] (b.map fun x => Lib.decDigits x)
def fourP (l : List Bs) : Option Bs := if 4 < l.length then none else (fourB l.length l).map dottedP

/-! ### IPv6 -/
def byteP (x : Bs) : Option Nat := match Lib.parseUintB 8 x with
  | .ok n => if Lib.decDigits n = x then some n else none
  | _ => none
def bytesP (x : Bs) : Option (List Nat) := match (splitC 46 x).mapM byteP with
  | some l => if l.length = 4 then some l else none
  | none => none
/-- A piece: one to four digits. -/
def pieceP (x : Bs) : Option Nat := if x = [] ∨ 4 < x.length then none else x.foldlM (fun n c => (hexV c).map (n * 16 + ·)) 0
def rowP (last : Bool) : List Bs → Option (List Nat)
  | [] => some []
  | x :: r => if last && r.isEmpty && x.contains 46 then (bytesP x).map fun b => [b.getD 0 0 * 256 + b.getD 1 0, b.getD 2 0 * 256 + b.getD 3 0]
    else match pieceP x with
      | none => none
      | some n => (rowP last r).map (n :: ·)
def rowS (s : Bs) (last : Bool) : Option (List Nat) := if s = [] then some [] else rowP last (splitC 58 s)
def sixP (s : Bs) : Option (List Nat) :=
  let c := Lib.cut s [58, 58]
  if (!c.2.2 && s.isEmpty) || Lib.hasPrefix c.2.1 [58] then none
  else match rowS c.1 (!c.2.2), rowS c.2.1 true with
    | some x, some y => if c.2.2 then (if 8 ≤ x.length + y.length then none else some (x ++ List.replicate (8 - x.length - y.length) 0 ++ y)) else (if x.length + y.length = 8 then some (x ++ y) else none)
    | _, _ => none
/-- How many zeros stand at the front. -/
def zerosP (l : List Nat) : Nat := (l.takeWhile (· == 0)).length
/-- The longest run of pieces 0, of two at least, behind i pieces: where it begins, and ends. -/
def runP : Nat → List Nat → Nat × Nat → Nat × Nat
  | _, [], f => f
  | i, x :: r, f => runP (i + 1) r (if max (f.2 - f.1) 1 < zerosP (x :: r) then (i, i + zerosP (x :: r)) else f)
/-- Digits to the base 16. -/
def hexD (n : Nat) : Bs := (if h : n < 16 then [] else hexD (n / 16)) ++ [if n % 16 < 10 then UInt8.ofNat (48 + n % 16) else UInt8.ofNat (87 + n % 16)]
def toldP (l : List Nat) : Bs := joinP [58] (l.map hexD)
def textP (a : List Nat) : Bs := if (runP 0 a (0, 0)).1 = (runP 0 a (0, 0)).2 then toldP a else toldP (a.take (runP 0 a (0, 0)).1) ++ [58, 58] ++ toldP (a.drop (runP 0 a (0, 0)).2)

/-! ### percent -/
/-- The byte that a triple is worth with which a text begins. -/
def tripleP : Bs → Option UInt8
  | 37 :: a :: b :: _ => match hexV a, hexV b with
    | some x, some y => some (UInt8.ofNat (16 * x + y))
    | _, _ => none
  | _ => none
def decodeP : Bs → Bs
  | [] => []
  | c :: r => match tripleP (c :: r) with
    | some b => b :: decodeP (r.drop 2)
    | none => c :: decodeP r
  termination_by l => l.length
  decreasing_by all_goals simp; try omega
def digitU (n : Nat) : UInt8 := if n < 10 then UInt8.ofNat (48 + n) else UInt8.ofNat (55 + n)
def encodeP (of : Bs) (s : Bs) : Bs := s.flatMap fun c => if c < 32 || 126 < c || of.contains c then [37, digitU (c.toNat / 16), digitU (c.toNat % 16)] else [c]

/-! ### hosts -/
def banned : Bs := [0, 9, 10, 13, 32, 35, 47, 58, 60, 62, 63, 64, 91, 92, 93, 94, 124]
def oddB (c : UInt8) : Bool := c ≤ 32 || 127 ≤ c || c == 37 || banned.contains c
/-- An answer: a text, or an error's number. -/
inductive Res where
  | ok (t : Bs)
  | er (n : Nat)
  deriving DecidableEq, Repr
def ofO (n : Nat) : Option Bs → Res
  | some t => .ok t
  | none => .er n
def domainP (s : Bs) : Res :=
  let d := low (decodeP s)
  if d = [] ∨ d.any oddB = true then .er 70 else if numberedP d then ofO 71 (fourP (labelsP d)) else .ok d
def hostPr (s : Bs) (special : Bool) : Res :=
  if s[0]? = some 91 then (if s.length < 2 ∨ s.getLast? ≠ some 93 then .er 72 else ofO 72 ((sixP ((s.drop 1).dropLast)).map fun a => [91] ++ textP a ++ [93]))
  else if special then domainP s
  else if s.any banned.contains then .er 70 else .ok (encodeP [] s)
end Lz
