/- Plain words of package addr. No program in sight (but for the variable that the library reads). -/
import Derived.Test.YtfgfkiifekeeaaaIdx
import Derived.Test.YtfgfkiifekeeaaaUcnt
namespace Go.Proofs.Ytfgfkiifekeeaaa
open Go.RowKit Go.Shelf
set_option linter.unusedSimpArgs false
set_option linter.unusedVariables false

/-- the library's own variable holds some number -/
def MW (w : World) : Prop := ∃ m : Int, w.cell? ⟨0, 0, none⟩ = some (.int .i64 m)
theorem MW.lt {w : World} (h : MW w) : 0 < w.heap.size := by
  obtain ⟨m, h⟩ := h
  rcases Nat.eq_zero_or_pos w.heap.size with h0 | h0
  · unfold World.cell? at h
    rw [Array.getElem?_eq_none (by show w.heap.size ≤ 0; omega)] at h
    cases h
  · exact h0
theorem MW.step {w w' : World} (h : MW w) (hb : Below w.heap.size w w') : MW w' := by
  have h0 := h.lt
  obtain ⟨m, h⟩ := h
  exact ⟨m, (hb.cell (p := ⟨0, 0, none⟩) h0).trans h⟩
theorem MW.alloc {w : World} (h : MW w) (o : Obj) : MW (w.alloc o) := h.step ((Below.refl _ _).alloc1 o)
def aLet (b : UInt8) : Bool := decide (97 ≤ b.toNat ∧ b.toNat ≤ 122 ∨ 48 ≤ b.toNat ∧ b.toNat ≤ 57)
def aHostB (b : UInt8) : Bool := aLet b || decide (b.toNat = 46) || decide (b.toNat = 45)
def aHost (s : List UInt8) : Bool := !s.isEmpty && aLet (s.headD 0) && aLet (s.getLastD 0) && !Lib.contains s [46, 46] && s.all aHostB
def aName (s : List UInt8) : Bool := uPlain s && !s.any bad3 && decide (s.map uLow = s)
def aCheck (n h r : List UInt8) : Int :=
  if 16 < n.length ∨ 16 < h.length ∨ 12 < r.length then 5 else if n = [] ∨ h = [] then 4 else if (aName n && aHost h && uPlain r) = true then 0 else 11
def aRes (r : List UInt8) : Int := if 12 < r.length then 5 else if uPlain r = true then 0 else 11
abbrev A3 := List UInt8 × List UInt8 × List UInt8
def aParse (s : List UInt8) : A3 × Int :=
  if ((Lib.cut ((Lib.cut s [47]).1.map uLow) [64]).2.2 = false) ∨ ((Lib.cut s [47]).2.2 = true ∧ (Lib.cut s [47]).2.1 = []) then (([], [], []), 4)
  else if aCheck (Lib.cut ((Lib.cut s [47]).1.map uLow) [64]).1 (Lib.cut ((Lib.cut s [47]).1.map uLow) [64]).2.1 (Lib.cut s [47]).2.1 ≠ 0 then
    (([], [], []), aCheck (Lib.cut ((Lib.cut s [47]).1.map uLow) [64]).1 (Lib.cut ((Lib.cut s [47]).1.map uLow) [64]).2.1 (Lib.cut s [47]).2.1)
  else (((Lib.cut ((Lib.cut s [47]).1.map uLow) [64]).1, (Lib.cut ((Lib.cut s [47]).1.map uLow) [64]).2.1, (Lib.cut s [47]).2.1), 0)
def aText (a : A3) : List UInt8 := a.1 ++ 64 :: a.2.1 ++ (if a.2.2 = [] then [] else 47 :: a.2.2)
def aPrint (a : A3) : List UInt8 × Int := if aCheck a.1 a.2.1 a.2.2 ≠ 0 then ([], aCheck a.1 a.2.1 a.2.2) else (aText a, 0)
def aFull (s r : List UInt8) : List UInt8 × Int :=
  if (aParse s).2 ≠ 0 then ([], (aParse s).2) else if (aParse s).1.2.2 ≠ [] then ([], 4) else if aRes r ≠ 0 then ([], aRes r) else (aText ((aParse s).1.1, (aParse s).1.2.1, r), 0)
def aBare (s : List UInt8) : List UInt8 × Int := if (aParse s).2 ≠ 0 then ([], (aParse s).2) else (aText ((aParse s).1.1, (aParse s).1.2.1, []), 0)
def aIsBare (s : List UInt8) : Bool := decide ((aBare s).2 = 0 ∧ (aBare s).1 = s)
def aLess (a b : A3) : Bool := if a.1 ≠ b.1 then Op.bytesLess a.1 b.1 else if a.2.1 ≠ b.2.1 then Op.bytesLess a.2.1 b.2.1 else Op.bytesLess a.2.2 b.2.2
/-- an address as a value -/
def aV (n h r : ByteArray) : Value := .agg #[.string n, .string h, .string r]
def aC (n h r : ByteArray) : List Value := [.string n, .string h, .string r]
theorem isE2 (s : ByteArray) : (s.toList.isEmpty) = decide (s.data.toList = []) := by
  rw [isE]
  by_cases h : s.size = 0
  · rw [decide_eq_true h, decide_eq_true (List.eq_nil_of_length_eq_zero (by rw [list_size]; exact h))]
  · rw [decide_eq_false h, decide_eq_false (list_ne s h)]
theorem aCheck_codes (n h r : List UInt8) : aCheck n h r = 0 ∨ aCheck n h r = 4 ∨ aCheck n h r = 5 ∨ aCheck n h r = 11 := by
  unfold aCheck
  split
  · exact .inr (.inr (.inl rfl))
  split
  · exact .inr (.inl rfl)
  split
  · exact .inl rfl
  · exact .inr (.inr (.inr rfl))
theorem ba_ext (a b : ByteArray) (h : a.data.toList = b.data.toList) : a = b := by
  have : strOf a.data.toList = strOf b.data.toList := by rw [h]
  exact this
theorem ba_empty (s : ByteArray) : s.data.toList = [] ↔ s = ByteArray.empty := ⟨fun h => ba_ext _ _ h, fun h => by rw [h]; rfl⟩
end Go.Proofs.Ytfgfkiifekeeaaa
