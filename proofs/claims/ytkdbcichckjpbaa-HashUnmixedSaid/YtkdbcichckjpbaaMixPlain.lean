/- The plain law of Mix: it is turned back by three unshifts and two products. No program in sight. -/
import Derived.Test.YtkdbcichckjpbaaHash
import Derived.Laws.BitsAllLaws
namespace Go.Proofs.Ytkdbcichckjpbaa
open Go.RowKit
set_option linter.unusedSimpArgs false
set_option linter.unusedVariables false

/-- one step of unshift -/
def unsh1 (n : Int) (by_ : Nat) (out : Int) : Int := bits .xor .u64 n (out / 2 ^ by_)
def unsh (n : Int) (k : Nat) : Int := unsh1 n k (unsh1 n k (unsh1 n k n))

abbrev bi (x : BitVec 64) : Int := (x.toNat : Int)
theorem bi_bd (x : BitVec 64) : 0 ≤ bi x ∧ bi x ≤ 18446744073709551615 := by have := x.isLt; unfold bi; omega
theorem bi_xor (a b : BitVec 64) : bits .xor .u64 (bi a) (bi b) = bi (a ^^^ b) := by
  unfold bi
  rw [u64_xor_nat _ _ a.isLt b.isLt, BitVec.toNat_xor]
theorem bi_shr (a : BitVec 64) (k : Nat) : bi a / 2 ^ k = bi (a >>> k) := by
  unfold bi
  rw [BitVec.toNat_ushiftRight, Nat.shiftRight_eq_div_pow]
  simp
theorem bi_mul (a c : BitVec 64) : IntKind.u64.wrap (bi a * bi c) = bi (a * c) := by
  unfold bi
  rw [IntKind.wrap_u64, BitVec.toNat_mul]
  simp
def bx (x : BitVec 64) (k : Nat) : BitVec 64 := x ^^^ (x >>> k)
theorem unsh1_bx (x : BitVec 64) (k : Nat) (y : BitVec 64) : unsh1 (bi x) k (bi y) = bi (x ^^^ (y >>> k)) := by
  unfold unsh1
  rw [bi_shr, bi_xor]
theorem shr_add (x : BitVec 64) (a b : Nat) : (x >>> a) >>> b = x >>> (a + b) := by rw [BitVec.shiftRight_add]
theorem shr_xor (x y : BitVec 64) (a : Nat) : (x ^^^ y) >>> a = (x >>> a) ^^^ (y >>> a) := BitVec.ushiftRight_xor_distrib x y a
theorem step (y : BitVec 64) (k m : Nat) : (bx y k) ^^^ ((y ^^^ (y >>> m)) >>> k) = y ^^^ (y >>> (m + k)) := by
  unfold bx
  rw [shr_xor, shr_add, BitVec.xor_assoc, ← BitVec.xor_assoc (y >>> k), BitVec.xor_self, BitVec.zero_xor]
theorem unsh_bx (y : BitVec 64) (k : Nat) (h : 64 ≤ k + k + k + k) : unsh (bi (bx y k)) k = bi y := by
  unfold unsh
  rw [unsh1_bx]
  have e1 := step y k k
  rw [show bx y k ^^^ (bx y k >>> k) = y ^^^ (y >>> (k + k)) from e1, unsh1_bx, step, unsh1_bx, step]
  have : y >>> (k + k + k + k) = 0#64 := by
    apply BitVec.eq_of_toNat_eq
    rw [BitVec.toNat_ushiftRight, Nat.shiftRight_eq_div_pow]
    have := y.isLt
    have h2 : 2 ^ 64 ≤ 2 ^ (k + k + k + k) := Nat.pow_le_pow_right (by omega) h
    exact Nat.div_eq_of_lt (by omega)
  rw [this, BitVec.xor_zero]
theorem bi_of (n : Int) (h0 : 0 ≤ n) (h1 : n ≤ 18446744073709551615) : ∃ x : BitVec 64, n = bi x :=
  ⟨BitVec.ofNat 64 n.toNat, by unfold bi; rw [BitVec.toNat_ofNat]; omega⟩

theorem hMix1_bi (x : BitVec 64) : hMix1 (bi x) = bi (bx x 30 * 13787848793156543929#64) := by
  unfold hMix1
  rw [show (1073741824 : Int) = 2 ^ 30 from rfl, bi_shr, bi_xor, show (13787848793156543929 : Int) = bi 13787848793156543929#64 from rfl, bi_mul]
  rfl
theorem hMix2_bi (x : BitVec 64) : hMix2 (bi x) = bi (bx x 27 * 10723151780598845931#64) := by
  unfold hMix2
  rw [show (134217728 : Int) = 2 ^ 27 from rfl, bi_shr, bi_xor, show (10723151780598845931 : Int) = bi 10723151780598845931#64 from rfl, bi_mul]
  rfl
theorem hMix3_bi (x : BitVec 64) : hMix3 (bi x) = bi (bx x 31) := by
  unfold hMix3
  rw [show (2147483648 : Int) = 2 ^ 31 from rfl, bi_shr, bi_xor]
  rfl
theorem hMix_bd (n : Int) (h0 : 0 ≤ n) (h1 : n ≤ 18446744073709551615) : 0 ≤ hMix n ∧ hMix n ≤ 18446744073709551615 := by
  obtain ⟨x, rfl⟩ := bi_of n h0 h1
  unfold hMix
  rw [hMix1_bi, hMix2_bi, hMix3_bi]
  exact bi_bd _
theorem inv2 (x : BitVec 64) : x * 10723151780598845931#64 * 3573116690164977347#64 = x := by
  rw [BitVec.mul_assoc, show (10723151780598845931#64 * 3573116690164977347#64 : BitVec 64) = 1#64 from by decide, BitVec.mul_one]
theorem inv1 (x : BitVec 64) : x * 13787848793156543929#64 * 10871156337175269513#64 = x := by
  rw [BitVec.mul_assoc, show (13787848793156543929#64 * 10871156337175269513#64 : BitVec 64) = 1#64 from by decide, BitVec.mul_one]

def back1 (n : Int) : Int := IntKind.u64.wrap (unsh (hMix n) 31 * 3573116690164977347)
def back2 (n : Int) : Int := IntKind.u64.wrap (unsh (back1 n) 27 * 10871156337175269513)
theorem back1_bi (x : BitVec 64) : back1 (bi x) = bi (bx (bx x 30 * 13787848793156543929#64) 27) := by
  unfold back1 hMix
  rw [hMix1_bi, hMix2_bi, hMix3_bi, unsh_bx _ _ (by omega), show (3573116690164977347 : Int) = bi 3573116690164977347#64 from rfl, bi_mul, inv2]
theorem back2_bi (x : BitVec 64) : back2 (bi x) = bi (bx x 30) := by
  unfold back2
  rw [back1_bi, unsh_bx _ _ (by omega), show (10871156337175269513 : Int) = bi 10871156337175269513#64 from rfl, bi_mul, inv1]
/-- The whole way back. -/
theorem unmixed (n : Int) (h0 : 0 ≤ n) (h1 : n ≤ 18446744073709551615) : unsh (back2 n) 30 = n := by
  obtain ⟨x, rfl⟩ := bi_of n h0 h1
  rw [back2_bi, unsh_bx _ _ (by omega)]
theorem back1_bd (n : Int) : 0 ≤ back1 n ∧ back1 n ≤ 18446744073709551615 := by unfold back1; rw [IntKind.wrap_u64]; omega
theorem back2_bd (n : Int) : 0 ≤ back2 n ∧ back2 n ≤ 18446744073709551615 := by unfold back2; rw [IntKind.wrap_u64]; omega
end Go.Proofs.Ytkdbcichckjpbaa
