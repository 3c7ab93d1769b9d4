/- Contracts of package hash and of its reference: each function computes the plain function of the same name below. -/
import Derived.Test.YtcgmaimfnepefaaRows
import Derived.Test.YtcgmaimfnepefaaKit
namespace Go.Proofs.Ytcgmaimfnepefaa
open Go.RowKit
set_option linter.unusedSimpArgs false
set_option linter.unusedVariables false

/-! The plain functions. -/
def mix32 (h : Int) (b : UInt8) : Int := IntKind.u32.wrap (bits .xor .u32 h b.toNat * 16777619)
def hMore (h : Int) (l : List UInt8) : Int := l.foldl mix32 h
def hOf (l : List UInt8) : Int := hMore 2166136261 l
def hMix1 (n : Int) : Int := IntKind.u64.wrap (bits .xor .u64 n (n / 1073741824) * 13787848793156543929)
def hMix2 (n : Int) : Int := IntKind.u64.wrap (bits .xor .u64 n (n / 134217728) * 10723151780598845931)
def hMix3 (n : Int) : Int := bits .xor .u64 n (n / 2147483648)
def hMix (n : Int) : Int := hMix3 (hMix2 (hMix1 n))
def hBelow (n most : Int) : Int := if most < 1 then 0 else n % most
theorem hMore_snoc (h : Int) (l : List UInt8) (b : UInt8) : hMore h (l ++ [b]) = mix32 (hMore h l) b := by simp [hMore]
theorem hMore_append (h : Int) (a b : List UInt8) : hMore h (a ++ b) = hMore (hMore h a) b := by simp [hMore]

/-! Package hash. -/

theorem hash_Mix_any (n : Int) (h0 : 0 ≤ n) (h1 : n ≤ 18446744073709551615) (w : World) :
    Calls Try.prog 25 #[.int .u64 n] w fun e w' => e = .returned (.int .u64 (hMix n)) ∧ w = w' := by
  go_enter Try.func25, Try.ntmps25
  go_wp2
  go_ret
  exact ⟨rfl, rfl⟩
theorem hash_Below_any (n most : Int) (h0 : 0 ≤ n) (h1 : n ≤ 18446744073709551615) (h2 : most ≤ 9223372036854775807) (w : World) :
    Calls Try.prog 20 #[.int .u64 n, .int .i64 most] w fun e w' => e = .returned (.int .i64 (hBelow n most)) ∧ w = w' := by
  by_cases hm : most < 1
  · go_enter Try.func20, Try.ntmps20
    go_wp2
    go_ret
    exact ⟨ret_int (by simp [hBelow, hm]), rfl⟩
  · have : n % most < most := Int.emod_lt_of_pos _ (by omega)
    have : 0 ≤ n % most := Int.emod_nonneg _ (by omega)
    go_enter Try.func20, Try.ntmps20
    go_wp2
    go_ret
    exact ⟨ret_int (by rw [hBelow, if_neg (by omega)]), rfl⟩
/-! The reference. -/


/-! Draw: a closure that keeps its seed. -/
def hSeed (n : Int) : Int := IntKind.u64.wrap (n + 11400714819323198485)
theorem hSeed_bd (n : Int) : 0 ≤ hSeed n ∧ hSeed n ≤ 18446744073709551615 := by unfold hSeed; rw [IntKind.wrap_u64]; omega

theorem hash_Draw_any (n : Int) (h0 : 0 ≤ n) (h1 : n ≤ 18446744073709551615) (w : World) :
    Calls Try.prog 21 #[.int .u64 n] w fun e w' => e = .returned (.tuple #[.int .u64 (hSeed n), .int .u64 (hMix (hSeed n))]) ∧ Below w.heap.size w w' := by
  have hs := hSeed_bd n
  unfold hSeed at hs
  go_enter Try.func21, Try.ntmps21
  go_wp2_with go_in
  go_quiet ((go_at_call 25; exact quiet_left (hash_Mix_any _ (by omega) (by omega) _)))
  go_wp2
  go_ret2
  exact ⟨rfl, ((Below.refl _ _).alloc (Nat.le_refl _) _).drewN _⟩
end Go.Proofs.Ytcgmaimfnepefaa
