/- Contracts of the reference of chapter 13, further: Wait, Run. -/
import Derived.Test.YtpjepaaaanajhaaRef13b
import Derived.Test.YtpjepaaaanajhaaBucket4
namespace Go.Proofs.Ytpjepaaaanajhaa
open Go.RowKit
set_option linter.unusedSimpArgs false
set_option linter.unusedVariables false

theorem div_of {a r k : Int} (hr : 0 < r) (h1 : k * r ≤ a) (h2 : a < (k + 1) * r) : a / r = k := by
  have h3 := (Int.le_ediv_iff_mul_le hr).2 h1
  have h4 := (Int.ediv_lt_iff_lt_mul hr).2 h2
  omega

set_option maxHeartbeats 1000000 in
theorem r13_Wait_any (b r t a now n : Int) (hn : -9223372036854775808 ≤ n) (w : World) :
    Calls Try.prog 38 #[.agg #[.int .i64 b, .int .i64 r], .agg #[.int .i64 t, .int .i64 a], .int .i64 now, .int .i64 n] w fun e w' => e = .returned (.int .i64 (bWait b r t a now n)) ∧ Below w.heap.size w w' := by
  have hW : Hid (bWait b r t a now n = if n < 0 ∨ bFine b r t a = false ∨ b < n then -1 else if n - bT b r t a now ≤ 0 then 0 else if r = 0 then -1 else (n - bT b r t a now + r - 1) / r) := rfl
  cases hf : bFine b r t a
  · have hF := hide hf
    go_enter Try.func38, Try.ntmps38
    go_wp2_with fail
    refine (r13_Fine_is hF.out _).mono ?_; rintro e w1 ⟨rfl, hb⟩
    obtain ⟨hc_hb, hf_hb⟩ := bcell hb; have hz_hb := hb.size; (try simp at hz_hb)
    have lt_w1 : w.heap.size < w1.heap.size ∧ w.heap.size + 1 < w1.heap.size := by omega
    go_wp2_with fail
    go_ret
    exact ⟨ret_int (by rw [hW.out, if_pos (.inr (.inl hF.out))]), by (repeat (first | with_reducible exact Below.refl _ _ | with_reducible assumption | with_reducible refine Below.drew ?_ | with_reducible refine Below.drewN ?_ _ | with_reducible refine Below.alloc1 ?_ _ | with_reducible refine Below.setCell1 ?_ (by first | omega | (simp; done) | (simp; omega)) _ | with_reducible refine Below.step ?_ (by with_reducible assumption)))⟩
  · have hF := hide hf
    have hT := bT_bd (now := now) hf
    have hL := bLevel_f (now := now) hf
    have hbd := bFine_t hf
    clear hf
    by_cases hn0 : n < 0
    · go_enter Try.func38, Try.ntmps38
      go_wp2_with fail
      refine (r13_Fine_is hF.out _).mono ?_; rintro e w1 ⟨rfl, hb⟩
      obtain ⟨hc_hb, hf_hb⟩ := bcell hb; have hz_hb := hb.size; (try simp at hz_hb)
      have lt_w1 : w.heap.size < w1.heap.size ∧ w.heap.size + 1 < w1.heap.size := by omega
      go_wp2_with fail
      go_ret
      exact ⟨ret_int (by rw [hW.out, if_pos (.inl hn0)]), by (repeat (first | with_reducible exact Below.refl _ _ | with_reducible assumption | with_reducible refine Below.drew ?_ | with_reducible refine Below.drewN ?_ _ | with_reducible refine Below.alloc1 ?_ _ | with_reducible refine Below.setCell1 ?_ (by first | omega | (simp; done) | (simp; omega)) _ | with_reducible refine Below.step ?_ (by with_reducible assumption)))⟩
    · by_cases hbn : b < n
      · go_enter Try.func38, Try.ntmps38
        go_wp2_with fail
        refine (r13_Fine_is hF.out _).mono ?_; rintro e w1 ⟨rfl, hb⟩
        obtain ⟨hc_hb, hf_hb⟩ := bcell hb; have hz_hb := hb.size; (try simp at hz_hb)
        have lt_w1 : w.heap.size < w1.heap.size ∧ w.heap.size + 1 < w1.heap.size := by omega
        go_wp2_with fail
        go_ret
        exact ⟨ret_int (by rw [hW.out, if_pos (.inr (.inr hbn))]), by (repeat (first | with_reducible exact Below.refl _ _ | with_reducible assumption | with_reducible refine Below.drew ?_ | with_reducible refine Below.drewN ?_ _ | with_reducible refine Below.alloc1 ?_ _ | with_reducible refine Below.setCell1 ?_ (by first | omega | (simp; done) | (simp; omega)) _ | with_reducible refine Below.step ?_ (by with_reducible assumption)))⟩
      · have hs : Hid (bWait b r t a now n = if n - bT b r t a now ≤ 0 then 0 else if r = 0 then -1 else (n - bT b r t a now + r - 1) / r) := by
          rw [hW.out, if_neg (by simp [hF.out]; omega)]; exact rfl
        go_enter Try.func38, Try.ntmps38
        go_wp2_with fail
        refine (r13_Fine_is hF.out _).mono ?_; rintro e w1 ⟨rfl, hb⟩
        obtain ⟨hc_hb, hf_hb⟩ := bcell hb; have hz_hb := hb.size; (try simp at hz_hb)
        have lt_w1 : w.heap.size < w1.heap.size ∧ w.heap.size + 1 < w1.heap.size := by omega
        go_wp2_with fail
        refine (r13_Level_any _ _ _ _ _ _).mono ?_; rintro e w2 ⟨rfl, hb2⟩
        obtain ⟨hc_hb2, hf_hb2⟩ := bcell hb2; have hz_hb2 := hb2.size; (try simp at hz_hb2)
        have lt_w2 : w.heap.size < w2.heap.size ∧ w.heap.size + 1 < w2.heap.size := by omega
        go_wp2_with fail
        have c1 : w2.cell? ⟨w.heap.size, 1, none⟩ = some (.int .i64 r) := by go_simp
        have hbw : Below w.heap.size w w2 := by (repeat (first | with_reducible exact Below.refl _ _ | with_reducible assumption | with_reducible refine Below.drew ?_ | with_reducible refine Below.drewN ?_ _ | with_reducible refine Below.alloc1 ?_ _ | with_reducible refine Below.setCell1 ?_ (by first | omega | (simp; done) | (simp; omega)) _ | with_reducible refine Below.step ?_ (by with_reducible assumption)))
        clear hc_hb hf_hb hc_hb2 hf_hb2 hL
        generalize bT b r t a now = T at *
        go_loop [9, 10] (fun v i => ∃ k x : Int, i = .int .i64 k ∧ v = .int .i64 x ∧ Hid (x = T + k * r) ∧ 0 ≤ k ∧ T ≤ x ∧ x ≤ 2000 ∧ k ≤ x - T ∧ (k ≤ 0 ∨ 1 ≤ r) ∧ Hid (k = 0 ∨ T + (k - 1) * r < n)) (fun v _ => (2000 - intOf v).toNat)
        case atStart => exact ⟨0, T, rfl, rfl, by show _ = _; omega, by omega, by omega, by omega, by omega, by omega, .inl rfl⟩
        case round =>
          obtain ⟨k, x, rfl, rfl, hx, hk0, hTx, hx2, hkx, hkr, hlow⟩ := hrel
          by_cases hlt : x < n
          · by_cases hr : r = 0
            · have hr' : (r == 0) = true := by rw [beq_iff_eq]; exact hr
              have hk : k = 0 := by omega
              have hgoal : Hid (bWait b r t a now n = -1) := by
                rw [Hid, hs.out, if_neg (by rw [hk] at hx; have := hx.out; omega), if_pos hr]
              have HR := hide hr
              clear hr hk
              go_wp2
              go_ret
              exact ⟨ret_int hgoal.out.symm, by (repeat (first | with_reducible exact Below.refl _ _ | with_reducible assumption | with_reducible refine Below.drew ?_ | with_reducible refine Below.drewN ?_ _ | with_reducible refine Below.alloc1 ?_ _ | with_reducible refine Below.setCell1 ?_ (by first | omega | (simp; done) | (simp; omega)) _ | with_reducible refine Below.step ?_ (by with_reducible assumption)))⟩
            · have hr' : (r == 0) = false := by rw [beq_eq_false_iff_ne]; exact hr
              have hr1 : 1 ≤ r := by omega
              clear hr
              go_wp2
              go_round
              case rel => exact ⟨k + 1, x + r, rfl, rfl, by show _ = _; rw [hx.out, Int.add_mul]; omega, by omega, by omega, by omega, by omega, by omega, .inr (by rw [Int.add_sub_cancel, ← hx.out]; exact hlt)⟩
              case measure => simp [intOf]; omega
          · have hgoal : Hid (bWait b r t a now n = k) := by
              have hx' := hx.out
              rw [Hid, hs.out]
              rcases hlow.out with h0 | h0
              · rw [if_pos (by rw [h0] at hx'; omega), h0]
              · by_cases hk : k = 0
                · rw [if_pos (by rw [hk] at hx'; omega), hk]
                · have hr1 : 1 ≤ r := by omega
                  have hk1 : 0 ≤ (k - 1) * r := Int.mul_nonneg (by omega) (by omega)
                  have e1 : (k - 1) * r = k * r - r := by rw [Int.sub_mul]; omega
                  have e2 : (k + 1) * r = k * r + r := by rw [Int.add_mul]; omega
                  rw [if_neg (by omega), if_neg (by omega), div_of (k := k) (by omega) (by omega) (by omega)]
            go_wp2
            go_ret
            exact ⟨ret_int hgoal.out.symm, by (repeat (first | with_reducible exact Below.refl _ _ | with_reducible assumption | with_reducible refine Below.drew ?_ | with_reducible refine Below.drewN ?_ _ | with_reducible refine Below.alloc1 ?_ _ | with_reducible refine Below.setCell1 ?_ (by first | omega | (simp; done) | (simp; omega)) _ | with_reducible refine Below.step ?_ (by with_reducible assumption)))⟩
end Go.Proofs.Ytpjepaaaanajhaa
