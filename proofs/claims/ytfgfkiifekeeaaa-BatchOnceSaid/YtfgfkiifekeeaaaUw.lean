/- Plain words of package utf that its callers use. -/
import Derived.Test.YtfgfkiifekeeaaaUlow
import Derived.Lib.Builder
import Derived.Lib.AppendStr
namespace Go.Proofs.Ytfgfkiifekeeaaa
open Go.RowKit Go.Shelf
set_option linter.unusedSimpArgs false
set_option linter.unusedVariables false

theorem info_u8 : (Try.prog.info? 5).map (fun i => (i.zero, i.size, i.bytes)) = some (some (.int .u8 0), 1, 1) := by kernel_rfl
def iCells (l : List Int) : List Value := l.map (Value.int .i64)
/-- what is laid; an error, if one is no character -/
def uOf (l : List Int) : List UInt8 × Int := if l.all uChar then (l.flatMap uPut, 0) else ([], 8)
theorem byteCells_append (a b : List UInt8) : Lib.byteCells (a ++ b) = Lib.byteCells a ++ Lib.byteCells b := by
  unfold Lib.byteCells; rw [List.map_append]
theorem flat_le (l : List Int) (n : Nat) : ((l.take n).flatMap uPut).length ≤ 4 * n := by
  induction l generalizing n with
  | nil => simp
  | cons c l ih =>
    cases n with
    | zero => simp
    | succ n =>
      rw [List.take_succ_cons, List.flatMap_cons, List.length_append]
      have := ih n
      have := (uPut_ne c).2
      omega
theorem take_succ_flat (l : List Int) (k : Nat) (c : Int) (h : l[k]? = some c) : (l.take (k + 1)).flatMap uPut = (l.take k).flatMap uPut ++ uPut c := by
  rw [List.take_add_one, List.flatMap_append, h]
  simp
theorem all_take_succ (l : List Int) (k : Nat) (c : Int) (h : l[k]? = some c) (ha : (l.take k).all uChar = true) (hc : uChar c = true) : (l.take (k + 1)).all uChar = true := by
  rw [List.take_add_one, List.all_append, h, ha]
  simp [hc]
theorem all_bad (l : List Int) (k : Nat) (c : Int) (h : l[k]? = some c) (hc : uChar c = false) : l.all uChar = false := by
  cases e : l.all uChar with
  | false => rfl
  | true =>
    rw [List.all_eq_true] at e
    have := e c (List.mem_of_getElem? h)
    rw [hc] at this; cases this
/-- all characters; none of them, if one is wrong -/
def uAll (s : List UInt8) : List Int := if uBad s then [] else (uScan s).map Prod.fst
theorem info_int : (Try.prog.info? 3).map (fun i => (i.zero, i.size, i.bytes)) = some (some (.int .i64 0), 1, 8) := by kernel_rfl
end Go.Proofs.Ytfgfkiifekeeaaa
