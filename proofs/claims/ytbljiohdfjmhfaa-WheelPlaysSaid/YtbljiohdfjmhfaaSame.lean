/- Contracts of the small comparisons of the references (callboyref01: SameInts, SameTexts). -/
import Derived.Test.YtbljiohdfjmhfaaRows
import Derived.Test.YtbljiohdfjmhfaaMem
namespace Go.Proofs.Ytbljiohdfjmhfaa
open Go.RowKit
set_option linter.unusedSimpArgs false
set_option linter.unusedVariables false

abbrev ints (l : List Int) : List Value := l.map (Value.int .i64)
theorem ints_get (l : List Int) (k : Nat) (h : k < l.length) : (ints l)[k]'(by simpa using h) = .int .i64 l[k] := by simp

theorem take_eq_succ {α : Type} [Inhabited α] (l m : List α) (k : Nat) (h1 : k < l.length) (h2 : k < m.length) (h : l.take k = m.take k) (he : l[k] = m[k]) : l.take (k + 1) = m.take (k + 1) := by
  rw [List.take_succ_eq_append_getElem h1, List.take_succ_eq_append_getElem h2, h, he]

theorem SameInts_any (A B : Option Addr) (c d : Nat) (l m : List Int) (w : World) (hl : l.length ≤ maxLen) (ha : Rd w w.heap.size A (ints l)) (hb : Rd w w.heap.size B (ints m)) :
    Calls Try.prog 26 #[.slice A l.length c, .slice B m.length d] w fun e w' => e = .returned (.bool (decide (l = m))) ∧ ∃ n, w.drewN n = w' := by
  unfold maxLen at hl
  by_cases hlen : l.length = m.length
  · have hne : ((l.length : Int) != (m.length : Int)) = false := by rw [bne_eq_false_iff_eq]; omega
    have hlen' : l.length ≤ m.length ∧ m.length ≤ l.length := by omega
    have HL := hide hlen
    clear hlen
    go_enter Try.func26, Try.ntmps26
    go_wp2
    go_loopw [5, 11, 13, 14] (fun i _ _ _ wr => ∃ k : Nat, k ≤ l.length ∧ i = .int .i64 k ∧ l.take k = m.take k ∧ ∃ n, w.drewN n = wr) (fun i _ _ _ _ => l.length - (intOf i).toNat)
    case atStart => exact ⟨0, Nat.zero_le _, rfl, rfl, 0, rfl⟩
    case round =>
      obtain ⟨k, hk, rfl, ht, n, rfl⟩ := hrel
      have HT := hide ht
      clear ht
      by_cases hlt : k < l.length
      · obtain ⟨ad, rfl, _, hca⟩ := ha.at_ (k := k) (by simpa using hlt)
        obtain ⟨bd, rfl, _, hcb⟩ := hb.at_ (k := k) (by simp; omega)
        rw [ints_get l k hlt] at hca
        rw [ints_get m k (by omega)] at hcb
        have h2 : k < m.length := by omega
        by_cases he : l[k] = m[k]
        · have hne : (l[k] != m[k]) = false := by rw [bne_eq_false_iff_eq]; exact he
          have HE := hide he
          clear he
          go_wp2
          go_quiet (fail)
          go_wp2
          go_roundw
          case rel => exact ⟨k + 1, by omega, by go_num, take_eq_succ l m k hlt h2 HT.out HE.out, _, rfl⟩
          case measure => simp [intOf]; omega
        · have hne : (l[k] != m[k]) = true := by rw [bne_iff_ne]; exact he
          go_wp2
          go_quiet (fail)
          go_wp2
          go_ret
          exact ⟨ret_bool (by rw [eq_comm, decide_eq_false_iff_not]; intro e; subst e; exact he rfl), qt_trans ⟨_, rfl⟩ ⟨_, rfl⟩⟩
      · go_wp2
        go_ret
        refine ⟨ret_bool ?_, _, rfl⟩
        have h := HT.out
        rw [List.take_of_length_le (by omega), List.take_of_length_le (by omega)] at h
        rw [eq_comm, decide_eq_true_eq]
        exact h
  · have hne : ((l.length : Int) != (m.length : Int)) = true := by rw [bne_iff_ne]; omega
    go_enter Try.func26, Try.ntmps26
    go_wp2
    go_ret
    exact ⟨ret_bool (by rw [eq_comm, decide_eq_false_iff_not]; intro e; exact hlen (by rw [e])), 0, rfl⟩
end Go.Proofs.Ytbljiohdfjmhfaa
