/- Contracts of package bucket, further: Level, Take, Wait, Most, Same. -/
import Derived.Test.YtpjepaaaanajhaaBucket
namespace Go.Proofs.Ytpjepaaaanajhaa
open Go.RowKit
set_option linter.unusedSimpArgs false
set_option linter.unusedVariables false

theorem fld_bState0 (x y : Value) (w : World) : (Instr.field 55 (.agg #[x, y]) 0).run Try.prog w = .ok x w := by kernel_rfl
theorem bucket_Level_any (b r t a now : Int) (w : World) :
    Calls Try.prog 27 #[.agg #[.int .i64 b, .int .i64 r], .agg #[.int .i64 t, .int .i64 a], .int .i64 now] w fun e w' => e = .returned (.int .i64 (bLevel b r t a now)) ∧ Below w.heap.size w w' := by
  have hL : Hid (bLevel b r t a now = if bFine b r t a then bT b r t a now else 0) := rfl
  cases hf : bFine b r t a
  · go_enter Try.func27, Try.ntmps27
    go_wp2_with fail
    refine (bucket_Fine_any _ _ _ _ _).mono ?_; rintro e w1 ⟨rfl, hb⟩
    go_wp2_with fail
    go_ret
    exact ⟨ret_int (by rw [hL.out, hf]; rfl), by (repeat (first | with_reducible exact Below.refl _ _ | with_reducible assumption | with_reducible refine Below.drew ?_ | with_reducible refine Below.drewN ?_ _ | with_reducible refine Below.alloc1 ?_ _ | with_reducible refine Below.setCell1 ?_ (by first | omega | (simp; done) | (simp; omega)) _ | with_reducible refine Below.step ?_ (by with_reducible assumption)))⟩
  · have fld := fld_bState0
    go_enter Try.func27, Try.ntmps27
    go_wp2_with fail
    refine (bucket_Fine_any _ _ _ _ _).mono ?_; rintro e w1 ⟨rfl, hb⟩
    obtain ⟨hc_hb, hf_hb⟩ := bcell hb; have hz_hb := hb.size; (try simp at hz_hb)
    go_wp2_with fail
    refine (bucket_filled_any _ _ _ _ _ hf _).mono ?_; rintro e w2 ⟨rfl, hb2⟩
    unfold stV
    go_wp2_with fail
    go_ret
    exact ⟨ret_int (by rw [hL.out, hf]; rfl), by (repeat (first | with_reducible exact Below.refl _ _ | with_reducible assumption | with_reducible refine Below.drew ?_ | with_reducible refine Below.drewN ?_ _ | with_reducible refine Below.alloc1 ?_ _ | with_reducible refine Below.setCell1 ?_ (by first | omega | (simp; done) | (simp; omega)) _ | with_reducible refine Below.step ?_ (by with_reducible assumption)))⟩

def bTakeV (x : (Int × Int) × Bool) : Value := .tuple #[stV x.1, .bool x.2]
theorem bucket_Take_any (b r t a now n : Int) (hn : -9223372036854775808 ≤ n) (w : World) :
    Calls Try.prog 25 #[.agg #[.int .i64 b, .int .i64 r], .agg #[.int .i64 t, .int .i64 a], .int .i64 now, .int .i64 n] w fun e w' => e = .returned (bTakeV (bTake b r t a now n)) ∧ Below w.heap.size w w' := by
  have hT : Hid (bTake b r t a now n = if n < 0 ∨ bFine b r t a = false ∨ bT b r t a now < n then ((t, a), false) else ((bT b r t a now - n, bA a now), true)) := rfl
  by_cases hn0 : n < 0
  · go_enter Try.func25, Try.ntmps25
    go_wp2_with fail
    exact bodyPost_ret (v := bTakeV (bTake b r t a now n)) (by rw [hT.out, if_pos (.inl hn0)] <;> simp only [bTakeV, stV]; simp only [results, Try.results25]; go_simp) rfl ⟨rfl, by (repeat (first | with_reducible exact Below.refl _ _ | with_reducible assumption | with_reducible refine Below.drew ?_ | with_reducible refine Below.drewN ?_ _ | with_reducible refine Below.alloc1 ?_ _ | with_reducible refine Below.setCell1 ?_ (by first | omega | (simp; done) | (simp; omega)) _ | with_reducible refine Below.step ?_ (by with_reducible assumption)))⟩
  · cases hf : bFine b r t a
    · go_enter Try.func25, Try.ntmps25
      go_wp2_with fail
      refine (bucket_Fine_any _ _ _ _ _).mono ?_; rintro e w1 ⟨rfl, hb⟩
      obtain ⟨hc_hb, hf_hb⟩ := bcell hb; have hz_hb := hb.size; (try simp at hz_hb)
      go_wp2_with fail
      exact bodyPost_ret (v := bTakeV (bTake b r t a now n)) (by rw [hT.out, if_pos (.inr (.inl hf))] <;> simp only [bTakeV, stV]; simp only [results, Try.results25]; go_simp) rfl ⟨rfl, by (repeat (first | with_reducible exact Below.refl _ _ | with_reducible assumption | with_reducible refine Below.drew ?_ | with_reducible refine Below.drewN ?_ _ | with_reducible refine Below.alloc1 ?_ _ | with_reducible refine Below.setCell1 ?_ (by first | omega | (simp; done) | (simp; omega)) _ | with_reducible refine Below.step ?_ (by with_reducible assumption)))⟩
    · by_cases hlt : bT b r t a now < n
      · go_enter Try.func25, Try.ntmps25
        go_wp2_with fail
        refine (bucket_Fine_any _ _ _ _ _).mono ?_; rintro e w1 ⟨rfl, hb⟩
        obtain ⟨hc_hb, hf_hb⟩ := bcell hb; have hz_hb := hb.size; (try simp at hz_hb)
        go_wp2_with fail
        refine (bucket_filled_any _ _ _ _ _ hf _).mono ?_; rintro e w2 ⟨rfl, hb2⟩
        obtain ⟨hc_hb2, hf_hb2⟩ := bcell hb2; have hz_hb2 := hb2.size; (try simp at hz_hb2)
        have lt_w1 : w.heap.size < w1.heap.size ∧ w.heap.size + 1 < w1.heap.size ∧ w.heap.size + 1 + 1 < w1.heap.size := by omega
        have lt_w2 : w.heap.size < w2.heap.size ∧ w.heap.size + 1 < w2.heap.size ∧ w.heap.size + 1 + 1 < w2.heap.size := by omega
        unfold stV
        go_wp2_with fail
        exact bodyPost_ret (v := bTakeV (bTake b r t a now n)) (by rw [hT.out, if_pos (.inr (.inr hlt))] <;> simp only [bTakeV, stV]; simp only [results, Try.results25]; go_simp) rfl ⟨rfl, by (repeat (first | with_reducible exact Below.refl _ _ | with_reducible assumption | with_reducible refine Below.drew ?_ | with_reducible refine Below.drewN ?_ _ | with_reducible refine Below.alloc1 ?_ _ | with_reducible refine Below.setCell1 ?_ (by first | omega | (simp; done) | (simp; omega)) _ | with_reducible refine Below.step ?_ (by with_reducible assumption)))⟩
      · go_enter Try.func25, Try.ntmps25
        have hbd := bFine_t hf
        have hTb : bT b r t a now ≤ 1000 := by unfold bT; omega
        go_wp2_with fail
        refine (bucket_Fine_any _ _ _ _ _).mono ?_; rintro e w1 ⟨rfl, hb⟩
        obtain ⟨hc_hb, hf_hb⟩ := bcell hb; have hz_hb := hb.size; (try simp at hz_hb)
        go_wp2_with fail
        refine (bucket_filled_any _ _ _ _ _ hf _).mono ?_; rintro e w2 ⟨rfl, hb2⟩
        obtain ⟨hc_hb2, hf_hb2⟩ := bcell hb2; have hz_hb2 := hb2.size; (try simp at hz_hb2)
        have lt_w1 : w.heap.size < w1.heap.size ∧ w.heap.size + 1 < w1.heap.size ∧ w.heap.size + 1 + 1 < w1.heap.size := by omega
        have lt_w2 : w.heap.size < w2.heap.size ∧ w.heap.size + 1 < w2.heap.size ∧ w.heap.size + 1 + 1 < w2.heap.size := by omega
        unfold stV
        go_wp2_with fail
        exact bodyPost_ret (v := bTakeV (bTake b r t a now n)) (by rw [hT.out, if_neg (by simp [hf]; omega)] <;> simp only [bTakeV, stV]; simp only [results, Try.results25]; go_simp) rfl ⟨rfl, by (repeat (first | with_reducible exact Below.refl _ _ | with_reducible assumption | with_reducible refine Below.drew ?_ | with_reducible refine Below.drewN ?_ _ | with_reducible refine Below.alloc1 ?_ _ | with_reducible refine Below.setCell1 ?_ (by first | omega | (simp; done) | (simp; omega)) _ | with_reducible refine Below.step ?_ (by with_reducible assumption)))⟩
end Go.Proofs.Ytpjepaaaanajhaa
