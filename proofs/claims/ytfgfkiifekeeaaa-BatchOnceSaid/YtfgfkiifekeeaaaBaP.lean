/- Batch: what it computes, and the plain laws. No program in sight. -/
import Derived.Test.YtfgfkiifekeeaaaAdP
namespace Go.Proofs.Ytfgfkiifekeeaaa
open Go.RowKit Go.Shelf
set_option linter.unusedSimpArgs false
set_option linter.unusedVariables false

/-- a probe -/
structure Pb where
  who : ByteArray
  user : ByteArray
deriving DecidableEq
instance : Inhabited Pb := ⟨⟨ByteArray.empty, ByteArray.empty⟩⟩
/-- a key parted: what it tells, and the error -/
def sSplit (s : List UInt8) : (List UInt8 × List UInt8) × Int :=
  if (Lib.cut s [32]).2.2 = false then (([], []), 4) else if aIsBare (Lib.cut s [32]).1 = false then (([], []), 11) else if aRes (Lib.cut s [32]).2.1 ≠ 0 then (([], []), aRes (Lib.cut s [32]).2.1) else (((Lib.cut s [32]).1, (Lib.cut s [32]).2.1), 0)
def bFine (x : Pb) : Bool := decide ((sSplit x.who.data.toList).2 = 0) && aIsBare x.user.data.toList
def bBig : Int := 1099511627776
def bIn (n : Int) : Bool := decide (0 ≤ n) && decide (n ≤ 1099511627776)
structure Bs where
  l : List Pb
  asked : Int
  saved : Int
deriving DecidableEq
def bCheck (x : Bs) : Int :=
  if 64 < x.l.length then 5 else if x.l.all bFine = false then 11 else if ¬ x.l.Nodup then 13 else if (bIn x.asked && bIn x.saved) = false then 8 else 0
def bPut (x : Bs) (p : Pb) : Bs × Int :=
  if bCheck x ≠ 0 then (x, bCheck x) else if bFine p = false then (x, 11) else if p ∈ x.l then (⟨x.l, x.asked, min (x.saved + 1) 1099511627776⟩, 0) else if x.l.length = 64 then (x, 7) else (⟨x.l ++ [p], x.asked, x.saved⟩, 0)
def bCut (n : Int) (m : Nat) : Nat := (max 0 (min n m)).toNat
def bTake (x : Bs) (n : Int) : Bs × List Pb :=
  if bCheck x ≠ 0 then (x, []) else (⟨x.l.drop (bCut n x.l.length), min (x.asked + bCut n x.l.length) 1099511627776, x.saved⟩, x.l.take (bCut n x.l.length))
def bForget (x : Bs) (w : ByteArray) : Bs := if bCheck x ≠ 0 then x else ⟨x.l.filter (fun p => !decide (p.who = w)), x.asked, x.saved⟩
def uAdd (out : List ByteArray) (p : Pb) : List ByteArray := if out.any (fun u => decide (p.user = u)) = true then out else out ++ [p.user]
def bUsers (l : List Pb) : List ByteArray := l.foldl uAdd []
def bRounds (x : Bs) (n : Int) : Int :=
  if x.l.length = 0 ∨ bCheck x ≠ 0 then 0 else if n < 1 then -1 else (x.l.length + min n x.l.length - 1) / min n x.l.length
end Go.Proofs.Ytfgfkiifekeeaaa
