/- The walk of HashUnmixed. -/
import Derived.Test.YtkdbcichckjpbaaAwake06
import Derived.Test.YtkdbcichckjpbaaMixPlain
namespace Go.Proofs.Ytkdbcichckjpbaa
open Go.RowKit
set_option linter.unusedSimpArgs false
set_option linter.unusedVariables false

def unshK (n : Int) (b : Nat) : Nat → Int
  | 0 => n
  | k + 1 => unsh1 n b (unshK n b k)
theorem unsh1_bd (n : Int) (b : Nat) (o : Int) : 0 ≤ unsh1 n b o ∧ unsh1 n b o ≤ 18446744073709551615 := by
  unfold unsh1 bits
  simp only [IntKind.wrap_u64, IntKind.bits]
  have := (BitVec.ofInt 64 n ^^^ BitVec.ofInt 64 (o / 2 ^ b)).isLt
  omega
theorem unshift_27 (n : Int) (h0 : 0 ≤ n) (h1 : n ≤ 18446744073709551615) (w : World) :
    Calls Try.prog 26 #[.int .u64 n, .int .i64 27] w fun e w' => e = .returned (.int .u64 (unsh n 27)) ∧ w = w' := by
  go_enter Try.func26, Try.ntmps26
  go_wp2
  go_loop [5, 6] (fun o i => ∃ k : Nat, k ≤ 3 ∧ i = .int .i64 k ∧ ∃ x : Int, 0 ≤ x ∧ x ≤ 18446744073709551615 ∧ Hid (x = unshK n 27 k) ∧ o = .int .u64 x) (fun _ i => 3 - (intOf i).toNat)
  case atStart => exact ⟨0, by omega, rfl, n, h0, h1, rfl, rfl⟩
  case round =>
    obtain ⟨k, hk, rfl, x, hx0, hx1, HX, rfl⟩ := hrel
    by_cases hlt : k < 3
    · have hbd := unsh1_bd n 27 x
      go_wp2
      go_round
      case rel => exact ⟨k + 1, by omega, by go_num, unsh1 n 27 x, hbd.1, hbd.2, by show _ = unsh1 n 27 _; rw [HX.out], rfl⟩
      case measure => simp [intOf]; omega
    · obtain rfl : k = 3 := by omega
      go_wp2
      go_ret
      exact ⟨ret_int (by rw [HX.out]; rfl), rfl⟩

theorem unshift_30 (n : Int) (h0 : 0 ≤ n) (h1 : n ≤ 18446744073709551615) (w : World) :
    Calls Try.prog 26 #[.int .u64 n, .int .i64 30] w fun e w' => e = .returned (.int .u64 (unsh n 30)) ∧ w = w' := by
  go_enter Try.func26, Try.ntmps26
  go_wp2
  go_loop [5, 6] (fun o i => ∃ k : Nat, k ≤ 3 ∧ i = .int .i64 k ∧ ∃ x : Int, 0 ≤ x ∧ x ≤ 18446744073709551615 ∧ Hid (x = unshK n 30 k) ∧ o = .int .u64 x) (fun _ i => 3 - (intOf i).toNat)
  case atStart => exact ⟨0, by omega, rfl, n, h0, h1, rfl, rfl⟩
  case round =>
    obtain ⟨k, hk, rfl, x, hx0, hx1, HX, rfl⟩ := hrel
    by_cases hlt : k < 3
    · have hbd := unsh1_bd n 30 x
      go_wp2
      go_round
      case rel => exact ⟨k + 1, by omega, by go_num, unsh1 n 30 x, hbd.1, hbd.2, by show _ = unsh1 n 30 _; rw [HX.out], rfl⟩
      case measure => simp [intOf]; omega
    · obtain rfl : k = 3 := by omega
      go_wp2
      go_ret
      exact ⟨ret_int (by rw [HX.out]; rfl), rfl⟩

theorem unshift_31 (n : Int) (h0 : 0 ≤ n) (h1 : n ≤ 18446744073709551615) (w : World) :
    Calls Try.prog 26 #[.int .u64 n, .int .i64 31] w fun e w' => e = .returned (.int .u64 (unsh n 31)) ∧ w = w' := by
  go_enter Try.func26, Try.ntmps26
  go_wp2
  go_loop [5, 6] (fun o i => ∃ k : Nat, k ≤ 3 ∧ i = .int .i64 k ∧ ∃ x : Int, 0 ≤ x ∧ x ≤ 18446744073709551615 ∧ Hid (x = unshK n 31 k) ∧ o = .int .u64 x) (fun _ i => 3 - (intOf i).toNat)
  case atStart => exact ⟨0, by omega, rfl, n, h0, h1, rfl, rfl⟩
  case round =>
    obtain ⟨k, hk, rfl, x, hx0, hx1, HX, rfl⟩ := hrel
    by_cases hlt : k < 3
    · have hbd := unsh1_bd n 31 x
      go_wp2
      go_round
      case rel => exact ⟨k + 1, by omega, by go_num, unsh1 n 31 x, hbd.1, hbd.2, by show _ = unsh1 n 31 _; rw [HX.out], rfl⟩
      case measure => simp [intOf]; omega
    · obtain rfl : k = 3 := by omega
      go_wp2
      go_ret
      exact ⟨ret_int (by rw [HX.out]; rfl), rfl⟩

theorem HashUnmixed_walk (n most : Int) (h0 : 0 ≤ n) (h1 : n ≤ 18446744073709551615) (h2 : most ≤ 9223372036854775807) (w : World) :
    Calls Try.prog 7 #[.int .u64 n, .int .i64 most] w fun e w' => e = .returned (.bool true) ∧ Below w.heap.size w w' := by
  have hm := hMix_bd n h0 h1
  have hb1 := back1_bd n
  have hb2 := back2_bd n
  unfold back1 at hb1
  unfold back2 at hb2
  have hun := unmixed n h0 h1
  unfold back2 at hun
  have HU := hide hun
  clear hun
  by_cases hmost : most < 1
  · have hz : hBelow n most = 0 := by unfold hBelow; rw [if_pos hmost]
    have HZ := hide hz
    clear hz
    have hmost' : ¬ 0 < most := by omega
    go_enter Try.func7, Try.ntmps7
    go_wp2_with fail
    refine (hash_Mix_any _ h0 h1 _).mono ?_; rintro e w2 ⟨rfl, rfl⟩
    go_wp2_with fail
    refine (unshift_31 _ hm.1 hm.2 _).mono ?_; rintro e w2 ⟨rfl, rfl⟩
    go_wp2_with fail
    refine (unshift_27 _ hb1.1 hb1.2 _).mono ?_; rintro e w2 ⟨rfl, rfl⟩
    go_wp2_with fail
    refine (unshift_30 _ hb2.1 hb2.2 _).mono ?_; rintro e w2 ⟨rfl, rfl⟩
    rw [show unsh (IntKind.u64.wrap (unsh (back1 n) 27 * 10871156337175269513)) 30 = n from HU.out]
    go_wp2_with fail
    refine (hash_Below_any _ _ h0 h1 h2 _).mono ?_; rintro e w2 ⟨rfl, rfl⟩
    rw [HZ.out]
    go_wp2_with fail
    refine (awake06 _).mono ?_; rintro e w2 ⟨rfl, hb⟩
    go_wp2
    go_ret
    exact ⟨rfl, hb⟩
  · obtain ⟨m, rfl⟩ : ∃ m : Nat, most = m := ⟨most.toNat, by omega⟩
    have hz := hBelow_bd n m (by omega)
    have hpos : 0 < (m : Int) := by omega
    go_enter Try.func7, Try.ntmps7
    go_wp2_with fail
    refine (hash_Mix_any _ h0 h1 _).mono ?_; rintro e w2 ⟨rfl, rfl⟩
    go_wp2_with fail
    refine (unshift_31 _ hm.1 hm.2 _).mono ?_; rintro e w2 ⟨rfl, rfl⟩
    go_wp2_with fail
    refine (unshift_27 _ hb1.1 hb1.2 _).mono ?_; rintro e w2 ⟨rfl, rfl⟩
    go_wp2_with fail
    refine (unshift_30 _ hb2.1 hb2.2 _).mono ?_; rintro e w2 ⟨rfl, rfl⟩
    rw [show unsh (IntKind.u64.wrap (unsh (back1 n) 27 * 10871156337175269513)) 30 = n from HU.out]
    go_wp2_with fail
    refine (hash_Below_any _ _ h0 h1 h2 _).mono ?_; rintro e w2 ⟨rfl, rfl⟩
    go_wp2_with fail
    refine (awake06 _).mono ?_; rintro e w2 ⟨rfl, hb⟩
    go_wp2
    go_ret
    exact ⟨rfl, hb⟩
end Go.Proofs.Ytkdbcichckjpbaa
