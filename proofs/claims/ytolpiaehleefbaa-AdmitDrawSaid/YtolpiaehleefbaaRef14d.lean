/- callboyref14: Level, Wait, Sources, Same. -/
import Derived.Test.YtolpiaehleefbaaRef14b
namespace Go.Proofs.Ytolpiaehleefbaa
open Go.RowKit Go.Sort
set_option linter.unusedSimpArgs false
set_option linter.unusedVariables false

theorem ren_neq (x y : En) (b : Bool) (hb : b = decide (x = y)) (w' : World) : (binOp .neq 144 (enV x) (enV y)).run Try.prog w' = .ok (.bool (!b)) w' := by
  subst hb
  obtain ⟨x0, x1, x2⟩ := x
  obtain ⟨y0, y1, y2⟩ := y
  have hS : Try.prog.underlying 144 = some (.struct (Try.prog.fieldsOf 144)) := by kernel_rfl
  have hp : Try.prog.stoodInHeld 144 = false := by kernel_rfl
  rw [run_neq_struct, show (10000 : Nat) = 9999 + 1 from rfl, run_equalIn_agg w' 9999 144 _ _ hS hp]
  simp only [Program.fieldsOf, Try.underlying144]
  go_simp
  by_cases h0 : x0 = y0 <;> by_cases h1 : x1 = y1 <;> by_cases h2 : x2 = y2 <;> simp [h0, h1, h2]
theorem r14_Same_any (A B : Option Addr) (c d : Nat) (l m : List En) (w : World) (hl : l.length ≤ 1000) (ha : Rd w w.heap.size A (enR l)) (hb : Rd w w.heap.size B (enR m)) :
    Calls Try.prog 43 #[.slice A l.length c, .slice B m.length d] w fun e w' => e = .returned (.bool (decide (l = m))) ∧ ∃ n, w.drewN n = w' := by
  by_cases hlen : l.length = m.length
  · have hne : ((l.length : Int) != (m.length : Int)) = false := by rw [bne_eq_false_iff_eq]; omega
    have hlen' : l.length ≤ m.length ∧ m.length ≤ l.length := by omega
    have HL := hide hlen
    clear hlen
    go_enter Try.func43, Try.ntmps43
    go_wp2
    go_loopw [5] (fun i wr => ∃ k : Nat, k ≤ l.length ∧ i = .int .i64 k ∧ l.take k = m.take k ∧ ∃ n, w.drewN n = wr) (fun i _ => l.length - (intOf i).toNat)
    case atStart => exact ⟨0, Nat.zero_le _, rfl, rfl, 0, rfl⟩
    case round =>
      obtain ⟨k, hk, rfl, ht, n, rfl⟩ := hrel
      have HT := hide ht
      clear ht
      by_cases hlt : k < l.length
      · obtain ⟨ad, rfl, _, a0, a1, a2⟩ := ha.en hlt
        obtain ⟨bd, rfl, _, b0, b1, b2⟩ := hb.en (k := k) (by omega)
        have h2 : k < m.length := by omega
        have hE := ren_neq l[k] m[k]
        by_cases he : l[k] = m[k]
        · have hE1 := hE true (by simp [he])
          have HE := hide he
          clear he hE
          go_wp2_with fail
          go_quiet (fail)
          go_wp2
          go_roundw
          case rel => exact ⟨k + 1, by omega, by go_num, take_eq_succ l m k hlt h2 HT.out HE.out, _, rfl⟩
          case measure => simp [intOf]; omega
        · have hE1 := hE false (by simp [he])
          clear hE
          go_wp2_with fail
          go_quiet (fail)
          go_wp2
          go_ret
          exact ⟨ret_bool (by rw [eq_comm, decide_eq_false_iff_not]; intro e; subst e; exact he rfl), qt_trans ⟨_, rfl⟩ ⟨_, rfl⟩⟩
      · go_wp2
        go_ret
        refine ⟨ret_bool ?_, _, rfl⟩
        have h := HT.out
        rw [List.take_of_length_le (by omega), List.take_of_length_le (by omega)] at h
        rw [eq_comm, decide_eq_true_eq]
        exact h
  · have hne : ((l.length : Int) != (m.length : Int)) = true := by rw [bne_iff_ne]; omega
    go_enter Try.func43, Try.ntmps43
    go_wp2
    go_ret
    exact ⟨ret_bool (by rw [eq_comm, decide_eq_false_iff_not]; intro e; exact hlen (by rw [e])), 0, rfl⟩
end Go.Proofs.Ytolpiaehleefbaa
