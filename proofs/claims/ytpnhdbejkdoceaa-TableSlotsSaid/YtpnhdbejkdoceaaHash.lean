/- Contracts of package hash and of its reference: each function computes the plain function of the same name below. -/
import Derived.Test.YtpnhdbejkdoceaaRows
import Derived.Test.YtpnhdbejkdoceaaKit
namespace Go.Proofs.Ytpnhdbejkdoceaa
open Go.RowKit
set_option linter.unusedSimpArgs false
set_option linter.unusedVariables false

/-! The plain functions. -/
def mix32 (h : Int) (b : UInt8) : Int := IntKind.u32.wrap (bits .xor .u32 h b.toNat * 16777619)
def hMore (h : Int) (l : List UInt8) : Int := l.foldl mix32 h
def hOf (l : List UInt8) : Int := hMore 2166136261 l
def hMix1 (n : Int) : Int := IntKind.u64.wrap (bits .xor .u64 n (n / 1073741824) * 13787848793156543929)
def hMix2 (n : Int) : Int := IntKind.u64.wrap (bits .xor .u64 n (n / 134217728) * 10723151780598845931)
def hMix3 (n : Int) : Int := bits .xor .u64 n (n / 2147483648)
def hMix (n : Int) : Int := hMix3 (hMix2 (hMix1 n))
def hBelow (n most : Int) : Int := if most < 1 then 0 else n % most
theorem hMore_snoc (h : Int) (l : List UInt8) (b : UInt8) : hMore h (l ++ [b]) = mix32 (hMore h l) b := by simp [hMore]
theorem hMore_append (h : Int) (a b : List UInt8) : hMore h (a ++ b) = hMore (hMore h a) b := by simp [hMore]

/-! Package hash. -/
theorem hash_More_any (h : Int) (s : ByteArray) (hs : s.size ≤ maxLen) (w : World) :
    Calls Try.prog 29 #[.int .u32 h, .string s] w fun e w' => e = .returned (.int .u32 (hMore h s.data.toList)) ∧ Below w.heap.size w w' := by
  unfold maxLen at hs
  have hcv := fun w s => run_bytes_of_string (P := Try.prog) w 9 74 5 s Try.underlying9 Try.underlying74 Try.underlying5
  go_enter Try.func29, Try.ntmps29
  go_wp2
  clear hcv
  generalize hW : (World.alloc w _).drew = w1
  generalize grownCap w s.size 0 5 = cap at *
  have hb : Below w.heap.size w w1 := by subst hW; exact ((Below.refl _ _).alloc (Nat.le_refl _) _).drew
  have hc : ∀ k (hk : k < s.size), w1.cell? ⟨w.heap.size, k, none⟩ = some (.int .u8 s[k].toNat) := by
    intro k hk
    subst hW
    show (World.alloc w _).cell? _ = _
    rw [World.cell?_alloc_mark, bytesRow_at s _ k hk]
  clear hW
  go_loop [0, 10] (fun n i => ∃ k : Nat, k ≤ s.size ∧ i = .int .i64 k ∧ n = .int .u32 (hMore h (s.data.toList.take k))) (fun _ i => s.size - (intOf i).toNat)
  case atStart => exact ⟨0, Nat.zero_le _, rfl, rfl⟩
  case round =>
    obtain ⟨k, hk, rfl, rfl⟩ := hrel
    by_cases hlt : k < s.size
    · have g := hc k hlt
      have HS : Hid (hMore h (s.data.toList.take (k + 1)) = mix32 (hMore h (s.data.toList.take k)) s[k]) := by rw [take_snoc s k hlt, hMore_snoc]; exact rfl
      clear hc
      have hbt : (s[k].toNat : Int) < 256 := by have := s[k].toNat_lt; omega
      go_wp2
      go_round
      case rel => exact ⟨k + 1, by omega, by go_num, by rw [HS.out]; rfl⟩
      case measure => simp [intOf]; omega
    · go_wp2
      go_ret
      exact ⟨ret_int (by rw [List.take_of_length_le (by simp; omega)]), hb⟩
theorem hash_Of_any (s : ByteArray) (hs : s.size ≤ maxLen) (w : World) :
    Calls Try.prog 16 #[.string s] w fun e w' => e = .returned (.int .u32 (hOf s.data.toList)) ∧ Below w.heap.size w w' := by
  go_enter Try.func16, Try.ntmps16
  go_wp2_with (go_at_call 29; refine (hash_More_any _ _ hs _).mono ?_; rintro e w' ⟨rfl, hb⟩)
  go_ret
  exact ⟨rfl, hb⟩

theorem hash_Below_any (n most : Int) (h0 : 0 ≤ n) (h1 : n ≤ 18446744073709551615) (h2 : most ≤ 9223372036854775807) (w : World) :
    Calls Try.prog 28 #[.int .u64 n, .int .i64 most] w fun e w' => e = .returned (.int .i64 (hBelow n most)) ∧ w = w' := by
  by_cases hm : most < 1
  · go_enter Try.func28, Try.ntmps28
    go_wp2
    go_ret
    exact ⟨ret_int (by simp [hBelow, hm]), rfl⟩
  · have : n % most < most := Int.emod_lt_of_pos _ (by omega)
    have : 0 ≤ n % most := Int.emod_nonneg _ (by omega)
    go_enter Try.func28, Try.ntmps28
    go_wp2
    go_ret
    exact ⟨ret_int (by rw [hBelow, if_neg (by omega)]), rfl⟩
/-! The reference. -/


theorem hash_Slot_any (n most : Int) (h0 : 0 ≤ n) (h1 : n ≤ 4294967295) (h2 : most ≤ 9223372036854775807) (w : World) :
    Calls Try.prog 13 #[.int .u32 n, .int .i64 most] w fun e w' => e = .returned (.int .i64 (hBelow n most)) ∧ w = w' := by
  go_enter Try.func13, Try.ntmps13
  go_wp2_with (go_at_call 28; refine (hash_Below_any _ _ (by omega) (by omega) h2 _).mono ?_; rintro e w' ⟨rfl, rfl⟩)
  go_ret
  exact ⟨rfl, rfl⟩
/-! Draw: a closure that keeps its seed. -/
def hSeed (n : Int) : Int := IntKind.u64.wrap (n + 11400714819323198485)
theorem hSeed_bd (n : Int) : 0 ≤ hSeed n ∧ hSeed n ≤ 18446744073709551615 := by unfold hSeed; rw [IntKind.wrap_u64]; omega

end Go.Proofs.Ytpnhdbejkdoceaa
