/- Package utf: goes, character, forms; what they compute. -/
import Derived.Test.YtfgfkiifekeeaaaRows
import Derived.Test.YtfgfkiifekeeaaaKit
import Derived.Test.YtfgfkiifekeeaaaMem
import Derived.Laws.BitsAllLaws
namespace Go.Proofs.Ytfgfkiifekeeaaa
open Go.RowKit
set_option linter.unusedSimpArgs false
set_option linter.unusedVariables false

def uChar (c : Int) : Bool := decide (0 ≤ c ∧ c ≤ 1114111 ∧ (c < 55296 ∨ 57343 < c))
def uForm (b : Nat) : Option Nat := if b < 128 then some 0 else if b < 192 then none else if b < 224 then some 1 else if b < 240 then some 2 else if b < 248 then some 3 else none
def uFrom : Nat → Int
  | 0 => 0
  | 1 => 128
  | 2 => 2048
  | _ => 65536
def uMark : Nat → Int
  | 0 => 0
  | 1 => 192
  | 2 => 224
  | _ => 240
def uIn (c : Int) : List UInt8 → Option Int
  | [] => some c
  | b :: r => if 128 ≤ b.toNat ∧ b.toNat < 192 then uIn (c * 64 + (b.toNat - 128)) r else none
def uNext : List UInt8 → Int × Nat
  | [] => (-1, 0)
  | b :: r => match uForm b.toNat with
    | none => (-1, 1)
    | some n => if r.length < n then (-1, 1) else match uIn (b.toNat - uMark n) (r.take n) with
      | none => (-1, 1)
      | some c => if c < uFrom n ∨ uChar c = false then (-1, 1) else (c, n + 1)
theorem b_goes (n : Nat) (h : n < 256) : (bits .andNot .u8 (n : Int) 63 == 128) = decide (128 ≤ n ∧ n < 192) := by
  revert n
  decide +kernel
theorem b_form0 (n : Nat) (h : n < 256) : (bits .andNot .u8 (n : Int) 127 != 0) = decide (128 ≤ n) := by
  revert n
  decide +kernel
theorem b_form1 (n : Nat) (h : n < 256) : (bits .andNot .u8 (n : Int) 31 != 192) = decide (n < 192 ∨ 224 ≤ n) := by
  revert n
  decide +kernel
theorem b_form2 (n : Nat) (h : n < 256) : (bits .andNot .u8 (n : Int) 15 != 224) = decide (n < 224 ∨ 240 ≤ n) := by
  revert n
  decide +kernel
theorem b_form3 (n : Nat) (h : n < 256) : (bits .andNot .u8 (n : Int) 7 != 240) = decide (n < 240 ∨ 248 ≤ n) := by
  revert n
  decide +kernel
theorem b_low0 (n : Nat) (h : n < 256) (h2 : n < 128) : bits .and .u8 (n : Int) 127 = n := by
  revert n
  decide +kernel
theorem b_low1 (n : Nat) (h : n < 256) (h1 : 192 ≤ n) (h2 : n < 224) : bits .and .u8 (n : Int) 31 = n - 192 := by
  revert n
  decide +kernel
theorem b_low2 (n : Nat) (h : n < 256) (h1 : 224 ≤ n) (h2 : n < 240) : bits .and .u8 (n : Int) 15 = n - 224 := by
  revert n
  decide +kernel
theorem b_low3 (n : Nat) (h : n < 256) (h1 : 240 ≤ n) (h2 : n < 248) : bits .and .u8 (n : Int) 7 = n - 240 := by
  revert n
  decide +kernel
theorem b_low (n : Nat) (h : n < 256) (h1 : 128 ≤ n) (h2 : n < 192) : bits .and .u8 (n : Int) 63 = n - 128 := by
  revert n
  decide +kernel
theorem b_join (c x : Int) (h0 : 0 ≤ c) (h1 : c < 1099511627776) (h2 : 0 ≤ x) (h3 : x < 64) : bits .or .i64 (c * 64) x = c * 64 + x := by
  obtain ⟨m, rfl⟩ : ∃ m : Nat, c = (m : Int) := ⟨c.toNat, by omega⟩
  obtain ⟨y, rfl⟩ : ∃ y : Nat, x = (y : Int) := ⟨x.toNat, by omega⟩
  have e : ((m : Int) * 64) = ((m * 64 : Nat) : Int) := by simp
  rw [e]
  have a1 : (BitVec.ofInt 64 ((m * 64 : Nat) : Int)).toNat = m * 64 := by
    rw [BitVec.ofInt_natCast, BitVec.toNat_ofNat]; exact Nat.mod_eq_of_lt (by omega)
  have a2 : (BitVec.ofInt 64 (y : Int)).toNat = y := by
    rw [BitVec.ofInt_natCast, BitVec.toNat_ofNat]; exact Nat.mod_eq_of_lt (by omega)
  show IntKind.i64.wrap ((BitVec.ofInt 64 ((m * 64 : Nat) : Int) ||| BitVec.ofInt 64 (y : Int)).toNat : Int) = _
  rw [BitVec.toNat_or, a1, a2, nat_join 6 (m * 64) y (by omega) (by omega), IntWalk.i64_in _ (by omega)]
  simp
theorem utf_goes_any (b : Nat) (hb : b < 256) (w : World) : Calls Try.prog 82 #[.int .u8 b] w fun e w' => e = .returned (.bool (decide (128 ≤ b ∧ b < 192))) ∧ w = w' := by
  go_enter Try.func82, Try.ntmps82
  go_wp2
  go_ret
  exact ⟨by rw [← b_goes b hb]; rfl, rfl⟩
theorem utf_character_any (c : Int) (w : World) : Calls Try.prog 83 #[.int .i64 c] w fun e w' => e = .returned (.bool (uChar c)) ∧ w = w' := by
  unfold uChar
  by_cases h1 : 0 ≤ c <;> by_cases h2 : c ≤ 1114111 <;> by_cases h3 : c < 55296 <;> by_cases h4 : 57343 < c <;>
    first | omega | (go_enter Try.func83, Try.ntmps83; go_wp2; go_ret; exact ⟨by simp [h1, h2, h3, h4], rfl⟩)
def uCells : List Value := [.int .i64 0, .int .u8 0, .int .u8 127, .int .i64 128, .int .u8 192, .int .u8 31, .int .i64 2048, .int .u8 224, .int .u8 15, .int .i64 65536, .int .u8 240, .int .u8 7]
theorem utf_forms_any (w : World) : Calls Try.prog 81 #[] w fun e w' => e = .returned (.agg uCells.toArray) ∧ Below w.heap.size w w' := by
  go_enter Try.func81, Try.ntmps81
  go_wp2
  generalize hV : World.alloc w _ = w1
  have hb : Below w.heap.size w w1 := by subst hV; (repeat (first | with_reducible exact Below.refl _ _ | with_reducible assumption | with_reducible refine Below.drew ?_ | with_reducible refine Below.drewN ?_ _ | with_reducible refine Below.alloc1 ?_ _ | with_reducible refine Below.setCell1 ?_ (by first | omega | (simp; done) | (simp; omega)) _ | with_reducible refine Below.step ?_ (by with_reducible assumption)))
  have k : Bk w1 w.heap.size 126 uCells := by subst hV; exact Bk.new' w 126 uCells _ rfl
  clear hV
  exact bodyPost_ret (v := .agg uCells.toArray) (results_cell_row rfl _ _ _ _ _ (0, 0) _ rfl k Try.underlying126 rfl (by kernel_rfl)) rfl ⟨rfl, hb⟩
end Go.Proofs.Ytfgfkiifekeeaaa
