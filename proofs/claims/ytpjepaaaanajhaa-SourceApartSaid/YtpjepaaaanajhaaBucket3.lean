/- Contracts of package bucket, further: Wait, Most, Same. -/
import Derived.Test.YtpjepaaaanajhaaBucket2
namespace Go.Proofs.Ytpjepaaaanajhaa
open Go.RowKit
set_option linter.unusedSimpArgs false
set_option linter.unusedVariables false

def bWait (b r t a now n : Int) : Int :=
  if n < 0 ∨ bFine b r t a = false ∨ b < n then -1 else if n - bT b r t a now ≤ 0 then 0 else if r = 0 then -1 else (n - bT b r t a now + r - 1) / r
def bSame (b r t a t' a' now : Int) : Bool := bFine b r t a && bFine b r t' a' && (bLevel b r t a now == bLevel b r t' a' now)

theorem bT_bd {b r t a now : Int} (h : bFine b r t a = true) : 0 ≤ bT b r t a now ∧ bT b r t a now ≤ b := by
  obtain ⟨⟨hb, hr⟩, ht, ha⟩ := bFine_t h
  have hA := bA_bd (now := now) ha.2
  have hm := mul_bd (x := bA a now - a) (y := r) (m := 1099511627776) (n := 1000) (by omega) (by omega) hr.1 hr.2
  unfold bT; omega
theorem bLevel_f {b r t a now : Int} (h : bFine b r t a = true) : bLevel b r t a now = bT b r t a now := by unfold bLevel; rw [h]; rfl

theorem bucket_Wait_any (b r t a now n : Int) (hn : -9223372036854775808 ≤ n) (w : World) :
    Calls Try.prog 37 #[.agg #[.int .i64 b, .int .i64 r], .agg #[.int .i64 t, .int .i64 a], .int .i64 now, .int .i64 n] w fun e w' => e = .returned (.int .i64 (bWait b r t a now n)) ∧ Below w.heap.size w w' := by
  have hW : Hid (bWait b r t a now n = if n < 0 ∨ bFine b r t a = false ∨ b < n then -1 else if n - bT b r t a now ≤ 0 then 0 else if r = 0 then -1 else (n - bT b r t a now + r - 1) / r) := rfl
  by_cases hn0 : n < 0
  · go_enter Try.func37, Try.ntmps37
    go_wp2_with fail
    go_ret
    exact ⟨ret_int (by rw [hW.out, if_pos (.inl hn0)]), by (repeat (first | with_reducible exact Below.refl _ _ | with_reducible assumption | with_reducible refine Below.drew ?_ | with_reducible refine Below.drewN ?_ _ | with_reducible refine Below.alloc1 ?_ _ | with_reducible refine Below.setCell1 ?_ (by first | omega | (simp; done) | (simp; omega)) _ | with_reducible refine Below.step ?_ (by with_reducible assumption)))⟩
  · cases hf : bFine b r t a
    · go_enter Try.func37, Try.ntmps37
      go_wp2_with fail
      refine (bucket_Fine_any _ _ _ _ _).mono ?_; rintro e w1 ⟨rfl, hb⟩
      obtain ⟨hc_hb, hf_hb⟩ := bcell hb; have hz_hb := hb.size; (try simp at hz_hb)
      go_wp2_with fail
      go_ret
      exact ⟨ret_int (by rw [hW.out, if_pos (.inr (.inl hf))]), by (repeat (first | with_reducible exact Below.refl _ _ | with_reducible assumption | with_reducible refine Below.drew ?_ | with_reducible refine Below.drewN ?_ _ | with_reducible refine Below.alloc1 ?_ _ | with_reducible refine Below.setCell1 ?_ (by first | omega | (simp; done) | (simp; omega)) _ | with_reducible refine Below.step ?_ (by with_reducible assumption)))⟩
    · by_cases hbn : b < n
      · go_enter Try.func37, Try.ntmps37
        go_wp2_with fail
        refine (bucket_Fine_any _ _ _ _ _).mono ?_; rintro e w1 ⟨rfl, hb⟩
        obtain ⟨hc_hb, hf_hb⟩ := bcell hb; have hz_hb := hb.size; (try simp at hz_hb)
        have lt_w1 : w.heap.size < w1.heap.size ∧ w.heap.size + 1 < w1.heap.size := by omega
        go_wp2_with fail
        go_ret
        exact ⟨ret_int (by rw [hW.out, if_pos (.inr (.inr hbn))]), by (repeat (first | with_reducible exact Below.refl _ _ | with_reducible assumption | with_reducible refine Below.drew ?_ | with_reducible refine Below.drewN ?_ _ | with_reducible refine Below.alloc1 ?_ _ | with_reducible refine Below.setCell1 ?_ (by first | omega | (simp; done) | (simp; omega)) _ | with_reducible refine Below.step ?_ (by with_reducible assumption)))⟩
      · have hT := bT_bd (now := now) hf
        have hL := bLevel_f (now := now) hf
        have hbd := bFine_t hf
        have hs : Hid (bWait b r t a now n = if n - bT b r t a now ≤ 0 then 0 else if r = 0 then -1 else (n - bT b r t a now + r - 1) / r) := by
          rw [hW.out, if_neg (by simp [hf]; omega)]; exact rfl
        by_cases hl : n - bT b r t a now ≤ 0
        · go_enter Try.func37, Try.ntmps37
          go_wp2_with fail
          refine (bucket_Fine_any _ _ _ _ _).mono ?_; rintro e w1 ⟨rfl, hb⟩
          obtain ⟨hc_hb, hf_hb⟩ := bcell hb; have hz_hb := hb.size; (try simp at hz_hb)
          have lt_w1 : w.heap.size < w1.heap.size ∧ w.heap.size + 1 < w1.heap.size := by omega
          go_wp2_with fail
          refine (bucket_Level_any _ _ _ _ _ _).mono ?_; rintro e w2 ⟨rfl, hb2⟩
          obtain ⟨hc_hb2, hf_hb2⟩ := bcell hb2; have hz_hb2 := hb2.size; (try simp at hz_hb2)
          have lt_w2 : w.heap.size < w2.heap.size ∧ w.heap.size + 1 < w2.heap.size := by omega
          go_wp2_with fail
          go_ret
          exact ⟨ret_int (by rw [hs.out, if_pos hl]), by (repeat (first | with_reducible exact Below.refl _ _ | with_reducible assumption | with_reducible refine Below.drew ?_ | with_reducible refine Below.drewN ?_ _ | with_reducible refine Below.alloc1 ?_ _ | with_reducible refine Below.setCell1 ?_ (by first | omega | (simp; done) | (simp; omega)) _ | with_reducible refine Below.step ?_ (by with_reducible assumption)))⟩
        · by_cases hr : r = 0
          · have hr' : (r == 0) = true := by rw [beq_iff_eq]; exact hr
            have HR := hide hr
            clear hr
            go_enter Try.func37, Try.ntmps37
            go_wp2_with fail
            refine (bucket_Fine_any _ _ _ _ _).mono ?_; rintro e w1 ⟨rfl, hb⟩
            obtain ⟨hc_hb, hf_hb⟩ := bcell hb; have hz_hb := hb.size; (try simp at hz_hb)
            have lt_w1 : w.heap.size < w1.heap.size ∧ w.heap.size + 1 < w1.heap.size := by omega
            go_wp2_with fail
            refine (bucket_Level_any _ _ _ _ _ _).mono ?_; rintro e w2 ⟨rfl, hb2⟩
            obtain ⟨hc_hb2, hf_hb2⟩ := bcell hb2; have hz_hb2 := hb2.size; (try simp at hz_hb2)
            have lt_w2 : w.heap.size < w2.heap.size ∧ w.heap.size + 1 < w2.heap.size := by omega
            go_wp2_with fail
            go_ret
            exact ⟨ret_int (by rw [hs.out, if_neg (by omega), if_pos HR.out]), by (repeat (first | with_reducible exact Below.refl _ _ | with_reducible assumption | with_reducible refine Below.drew ?_ | with_reducible refine Below.drewN ?_ _ | with_reducible refine Below.alloc1 ?_ _ | with_reducible refine Below.setCell1 ?_ (by first | omega | (simp; done) | (simp; omega)) _ | with_reducible refine Below.step ?_ (by with_reducible assumption)))⟩
          · have hr' : (r == 0) = false := by rw [beq_eq_false_iff_ne]; exact hr
            have hr1 : 1 ≤ r := by omega
            have hq : 0 ≤ (n - bT b r t a now + r - 1) / r ∧ (n - bT b r t a now + r - 1) / r ≤ n - bT b r t a now + r - 1 := ⟨Int.ediv_nonneg (by omega) (by omega), Int.ediv_le_self _ (by omega)⟩
            go_enter Try.func37, Try.ntmps37
            go_wp2_with fail
            refine (bucket_Fine_any _ _ _ _ _).mono ?_; rintro e w1 ⟨rfl, hb⟩
            obtain ⟨hc_hb, hf_hb⟩ := bcell hb; have hz_hb := hb.size; (try simp at hz_hb)
            have lt_w1 : w.heap.size < w1.heap.size ∧ w.heap.size + 1 < w1.heap.size := by omega
            go_wp2_with fail
            refine (bucket_Level_any _ _ _ _ _ _).mono ?_; rintro e w2 ⟨rfl, hb2⟩
            obtain ⟨hc_hb2, hf_hb2⟩ := bcell hb2; have hz_hb2 := hb2.size; (try simp at hz_hb2)
            have lt_w2 : w.heap.size < w2.heap.size ∧ w.heap.size + 1 < w2.heap.size := by omega
            go_wp2_with fail
            go_ret
            exact ⟨ret_int (by rw [hs.out, if_neg (by omega), if_neg (by omega)]), by (repeat (first | with_reducible exact Below.refl _ _ | with_reducible assumption | with_reducible refine Below.drew ?_ | with_reducible refine Below.drewN ?_ _ | with_reducible refine Below.alloc1 ?_ _ | with_reducible refine Below.setCell1 ?_ (by first | omega | (simp; done) | (simp; omega)) _ | with_reducible refine Below.step ?_ (by with_reducible assumption)))⟩

theorem bucket_Most_any (b r n : Int) (w : World) :
    Calls Try.prog 26 #[.agg #[.int .i64 b, .int .i64 r], .int .i64 n] w fun e w' => e = .returned (.int .i64 (bMost b r n)) ∧ Below w.heap.size w w' := by
  have hM : Hid (bMost b r n = if bGood b r then b + bHeld n 0 1073741824 * r else 0) := rfl
  have h4 : bCheck b r = if bGood b r then 0 else 8 := rfl
  cases hg : bGood b r
  · rw [hg] at h4
    simp only [if_true, if_false, Bool.false_eq_true] at h4
    go_enter Try.func26, Try.ntmps26
    go_wp2_with fail
    refine (bucket_Check_any _ _ _).mono ?_; rintro e w1 ⟨rfl, hb⟩
    obtain ⟨hc_hb, hf_hb⟩ := bcell hb; have hz_hb := hb.size; (try simp at hz_hb)
    have lt_w1 : w.heap.size < w1.heap.size := by omega
    go_wp2_with fail
    go_ret
    exact ⟨ret_int (by rw [hM.out, hg]; rfl), by (repeat (first | with_reducible exact Below.refl _ _ | with_reducible assumption | with_reducible refine Below.drew ?_ | with_reducible refine Below.drewN ?_ _ | with_reducible refine Below.alloc1 ?_ _ | with_reducible refine Below.setCell1 ?_ (by first | omega | (simp; done) | (simp; omega)) _ | with_reducible refine Below.step ?_ (by with_reducible assumption)))⟩
  · rw [hg] at h4
    simp only [if_true, if_false, Bool.false_eq_true] at h4
    have hbd := bGood_t hg
    have hh := bHeld_bd (n := n) (show (0 : Int) ≤ 1073741824 by omega)
    have hm := mul_bd hh.1 hh.2 hbd.2.1 hbd.2.2
    have hw1 : IntKind.i64.wrap (bHeld n 0 1073741824 * r) = bHeld n 0 1073741824 * r := IntWalk.i64_in _ (by omega)
    have hw2 : IntKind.i64.wrap (b + bHeld n 0 1073741824 * r) = b + bHeld n 0 1073741824 * r := IntWalk.i64_in _ (by omega)
    go_enter Try.func26, Try.ntmps26
    go_wp2_with fail
    refine (bucket_Check_any _ _ _).mono ?_; rintro e w1 ⟨rfl, hb⟩
    obtain ⟨hc_hb, hf_hb⟩ := bcell hb; have hz_hb := hb.size; (try simp at hz_hb)
    have lt_w1 : w.heap.size < w1.heap.size := by omega
    go_wp2_with fail
    go_quiet ((go_at_call 48; exact quiet_left (bucket_held_any _ _ _ _)))
    go_wp2
    go_ret
    exact ⟨ret_int (by rw [hM.out, hg]; rfl), by (repeat (first | with_reducible exact Below.refl _ _ | with_reducible assumption | with_reducible refine Below.drew ?_ | with_reducible refine Below.drewN ?_ _ | with_reducible refine Below.alloc1 ?_ _ | with_reducible refine Below.setCell1 ?_ (by first | omega | (simp; done) | (simp; omega)) _ | with_reducible refine Below.step ?_ (by with_reducible assumption)))⟩

theorem bucket_Fine_is {b r t a : Int} {v : Bool} (h : bFine b r t a = v) (w : World) :
    Calls Try.prog 44 #[.agg #[.int .i64 b, .int .i64 r], .agg #[.int .i64 t, .int .i64 a]] w fun e w' => e = .returned (.bool v) ∧ Below w.heap.size w w' := by
  subst h; exact bucket_Fine_any b r t a w

end Go.Proofs.Ytpjepaaaanajhaa
