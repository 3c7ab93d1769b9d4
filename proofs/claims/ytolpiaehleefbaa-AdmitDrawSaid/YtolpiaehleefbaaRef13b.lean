/- Contracts of the reference of chapter 13, further: Take, Most, Same. -/
import Derived.Test.YtolpiaehleefbaaRef13
import Derived.Deep.RegionHeld3
namespace Go.Proofs.Ytolpiaehleefbaa
open Go.RowKit
set_option linter.unusedSimpArgs false
set_option linter.unusedVariables false

set_option maxHeartbeats 1000000 in
theorem r13_Take_tup (b r t a now n : Int) (hn : -9223372036854775808 ≤ n) (w : World) :
    Calls Try.prog 37 #[.agg #[.int .i64 b, .int .i64 r], .agg #[.int .i64 t, .int .i64 a], .int .i64 now, .int .i64 n] w fun e w' =>
      e = .returned (.tuple #[.agg #[.int .i64 (bTake b r t a now n).1.1, .int .i64 (bTake b r t a now n).1.2], .bool (bTake b r t a now n).2]) ∧ Below w.heap.size w w' := by
  have hT : Hid (bTake b r t a now n = if n < 0 ∨ bFine b r t a = false ∨ bT b r t a now < n then ((t, a), false) else ((bT b r t a now - n, bA a now), true)) := rfl
  cases hf : bFine b r t a
  · have hF := hide hf
    go_enter Try.func37, Try.ntmps37
    go_wp2_with fail
    refine (r13_Fine_is hF.out _).mono ?_; rintro e w1 ⟨rfl, hb⟩
    obtain ⟨hc_hb, hf_hb⟩ := bcell hb; have hz_hb := hb.size; (try simp at hz_hb)
    have lt_w1 : w.heap.size < w1.heap.size ∧ w.heap.size + 1 < w1.heap.size ∧ w.heap.size + 1 + 1 < w1.heap.size := by omega
    go_wp2_with fail
    exact bodyPost_ret (v := .tuple #[.agg #[.int .i64 t, .int .i64 a], .bool false]) (by simp only [results, Try.results37]; go_simp) rfl ⟨by rw [hT.out, if_pos (.inr (.inl hF.out))], by (repeat (first | with_reducible exact Below.refl _ _ | with_reducible assumption | with_reducible refine Below.drew ?_ | with_reducible refine Below.drewN ?_ _ | with_reducible refine Below.alloc1 ?_ _ | with_reducible refine Below.setCell1 ?_ (by first | omega | (simp; done) | (simp; omega)) _ | with_reducible refine Below.step ?_ (by with_reducible assumption)))⟩
  · have hF := hide hf
    have hbd := bFine_t hf
    have hL := bLevel_f (now := now) hf
    have hTb := bT_bd (now := now) hf
    clear hf
    by_cases hn0 : n < 0
    · go_enter Try.func37, Try.ntmps37
      go_wp2_with fail
      refine (r13_Fine_is hF.out _).mono ?_; rintro e w1 ⟨rfl, hb⟩
      obtain ⟨hc_hb, hf_hb⟩ := bcell hb; have hz_hb := hb.size; (try simp at hz_hb)
      have lt_w1 : w.heap.size < w1.heap.size ∧ w.heap.size + 1 < w1.heap.size ∧ w.heap.size + 1 + 1 < w1.heap.size := by omega
      go_wp2_with fail
      exact bodyPost_ret (v := .tuple #[.agg #[.int .i64 t, .int .i64 a], .bool false]) (by simp only [results, Try.results37]; go_simp) rfl ⟨by rw [hT.out, if_pos (.inl hn0)], by (repeat (first | with_reducible exact Below.refl _ _ | with_reducible assumption | with_reducible refine Below.drew ?_ | with_reducible refine Below.drewN ?_ _ | with_reducible refine Below.alloc1 ?_ _ | with_reducible refine Below.setCell1 ?_ (by first | omega | (simp; done) | (simp; omega)) _ | with_reducible refine Below.step ?_ (by with_reducible assumption)))⟩
    · by_cases hlt : bT b r t a now < n
      · go_enter Try.func37, Try.ntmps37
        go_wp2_with fail
        refine (r13_Fine_is hF.out _).mono ?_; rintro e w1 ⟨rfl, hb⟩
        obtain ⟨hc_hb, hf_hb⟩ := bcell hb; have hz_hb := hb.size; (try simp at hz_hb)
        have lt_w1 : w.heap.size < w1.heap.size ∧ w.heap.size + 1 < w1.heap.size ∧ w.heap.size + 1 + 1 < w1.heap.size := by omega
        go_wp2_with fail
        refine (r13_Level_any _ _ _ _ _ _).mono ?_; rintro e w2 ⟨rfl, hb2⟩
        obtain ⟨hc_hb2, hf_hb2⟩ := bcell hb2; have hz_hb2 := hb2.size; (try simp at hz_hb2)
        have lt_w2 : w.heap.size < w2.heap.size ∧ w.heap.size + 1 < w2.heap.size ∧ w.heap.size + 1 + 1 < w2.heap.size := by omega
        go_wp2_with fail
        exact bodyPost_ret (v := .tuple #[.agg #[.int .i64 t, .int .i64 a], .bool false]) (by simp only [results, Try.results37]; go_simp) rfl ⟨by rw [hT.out, if_pos (.inr (.inr hlt))], by (repeat (first | with_reducible exact Below.refl _ _ | with_reducible assumption | with_reducible refine Below.drew ?_ | with_reducible refine Below.drewN ?_ _ | with_reducible refine Below.alloc1 ?_ _ | with_reducible refine Below.setCell1 ?_ (by first | omega | (simp; done) | (simp; omega)) _ | with_reducible refine Below.step ?_ (by with_reducible assumption)))⟩
      · have hwn : IntKind.i64.wrap (bT b r t a now - n) = bT b r t a now - n := IntWalk.i64_in _ (by omega)
        go_enter Try.func37, Try.ntmps37
        go_wp2_with fail
        refine (r13_Fine_is hF.out _).mono ?_; rintro e w1 ⟨rfl, hb⟩
        obtain ⟨hc_hb, hf_hb⟩ := bcell hb; have hz_hb := hb.size; (try simp at hz_hb)
        have lt_w1 : w.heap.size < w1.heap.size ∧ w.heap.size + 1 < w1.heap.size ∧ w.heap.size + 1 + 1 < w1.heap.size := by omega
        go_wp2_with fail
        refine (r13_Level_any _ _ _ _ _ _).mono ?_; rintro e w2 ⟨rfl, hb2⟩
        obtain ⟨hc_hb2, hf_hb2⟩ := bcell hb2; have hz_hb2 := hb2.size; (try simp at hz_hb2)
        have lt_w2 : w.heap.size < w2.heap.size ∧ w.heap.size + 1 < w2.heap.size ∧ w.heap.size + 1 + 1 < w2.heap.size := by omega
        go_wp2_with fail
        have c0 : w2.cell? ⟨w.heap.size, 0, none⟩ = some (.int .i64 b) := by go_simp
        have c1 : w2.cell? ⟨w.heap.size, 1, none⟩ = some (.int .i64 r) := by go_simp
        have c2 : w2.cell? ⟨w.heap.size + 1, 0, none⟩ = some (.int .i64 t) := by go_simp
        have c3 : w2.cell? ⟨w.heap.size + 1, 1, none⟩ = some (.int .i64 a) := by go_simp
        have k2 : Bk w2 (w.heap.size + 1 + 1) 33 [.int .i64 0, .int .i64 0] := Bk.below (Bk.below (by (repeat (first | with_reducible exact Bk.new' _ _ _ _ (by simp; done) | with_reducible assumption | with_reducible refine Bk.alloc ?_ _ | with_reducible refine Bk.drew ?_ | with_reducible refine Bk.drewN ?_ _ | with_reducible refine Bk.step ?_ (by with_reducible assumption) | with_reducible refine Bk.far ?_ (by first | omega | (simp; done) | (simp; omega)) _))) hb (by first | omega | (simp; done) | (simp; omega))) hb2 (by omega)
        have hbw : Below w.heap.size w w2 := by (repeat (first | with_reducible exact Below.refl _ _ | with_reducible assumption | with_reducible refine Below.drew ?_ | with_reducible refine Below.drewN ?_ _ | with_reducible refine Below.alloc1 ?_ _ | with_reducible refine Below.setCell1 ?_ (by first | omega | (simp; done) | (simp; omega)) _ | with_reducible refine Below.step ?_ (by with_reducible assumption)))
        clear hc_hb hf_hb hc_hb2 hf_hb2
        have HS : Hid (∀ w' : World, Below (w.heap.size + 1 + 1) w2 w' → (w'.cell? ⟨w.heap.size, 0, none⟩ = some (.int .i64 b) ∧ w'.cell? ⟨w.heap.size, 1, none⟩ = some (.int .i64 r) ∧ w'.cell? ⟨w.heap.size + 1, 0, none⟩ = some (.int .i64 t) ∧ w'.cell? ⟨w.heap.size + 1, 1, none⟩ = some (.int .i64 a)) ∧ w2.heap.size ≤ w'.heap.size ∧ Below (w.heap.size + 1 + 1) w2 w') := fun w' hB => ⟨⟨(hB.cell (p := ⟨w.heap.size, 0, none⟩) (by dsimp only; omega)).trans (c0), (hB.cell (p := ⟨w.heap.size, 1, none⟩) (by dsimp only; omega)).trans (c1), (hB.cell (p := ⟨w.heap.size + 1, 0, none⟩) (by dsimp only; omega)).trans (c2), (hB.cell (p := ⟨w.heap.size + 1, 1, none⟩) (by dsimp only; omega)).trans (c3)⟩, hB.size, hB⟩; go_region_held3 (fun w' => (w'.cell? ⟨w.heap.size, 0, none⟩ = some (.int .i64 b) ∧ w'.cell? ⟨w.heap.size, 1, none⟩ = some (.int .i64 r) ∧ w'.cell? ⟨w.heap.size + 1, 0, none⟩ = some (.int .i64 t) ∧ w'.cell? ⟨w.heap.size + 1, 1, none⟩ = some (.int .i64 a)) ∧ w2.heap.size ≤ w'.heap.size ∧ Below (w.heap.size + 1 + 1) w2 w') ((go_split_ands; exact HS.out _ (by (repeat (first | with_reducible exact Below.refl _ _ | with_reducible assumption | with_reducible refine Below.drew ?_ | with_reducible refine Below.drewN ?_ _ | with_reducible refine Below.alloc ?_ (by first | omega | (simp; done) | (simp; omega)) _ | with_reducible refine Below.setCell ?_ (by first | omega | (simp; done) | (simp; omega)) _ | with_reducible refine Below.then_ ?_ (by with_reducible assumption) (by first | omega | (simp; done) | (simp; omega))))))) ((first | (go_at_call 50; refine (r13_Level_any _ _ _ _ _ _).mono ?_; rintro e w3 ⟨rfl, hb3⟩; (have k3 := Bk.below (Bk.drew k2) hb3 (by first | omega | (simp; done) | (simp; omega))); have k3_0 := k3.cell 0; have k3_f0 := k3.frozen 0; have k3_1 := k3.cell 1; have k3_f1 := k3.frozen 1; simp only [List.set_cons_zero, List.set_cons_succ, List.getElem?_cons_zero, List.getElem?_cons_succ] at k3_0 k3_1) | (go_at_call 84; refine ((r13_held_any _ _ _ (by omega) _).lit (v' := .int .i64 (bA a now)) rfl).mono ?_; rintro e w4 ⟨rfl, rfl⟩)))

        go_wp2
        have h3 := hb3.size
        (try simp at h3)
        have k4 := ((k3.set_ 0 (.int .i64 (bLevel b r t a now - n))).set_ 1 (.int .i64 (bA a now)))
        have k4_0 := k4.cell 0; have k4_f0 := k4.frozen 0; have k4_1 := k4.cell 1; have k4_f1 := k4.frozen 1; simp only [List.set_cons_zero, List.set_cons_succ, List.getElem?_cons_zero, List.getElem?_cons_succ] at k4_0 k4_1
        exact bodyPost_ret (v := .tuple #[.agg #[.int .i64 (bLevel b r t a now - n), .int .i64 (bA a now)], .bool true]) (by simp only [results, Try.results37]; go_simp) rfl ⟨by rw [hT.out, if_neg (by simp [hF.out]; omega), hL], by (repeat (first | with_reducible exact Below.refl _ _ | with_reducible assumption | with_reducible refine Below.drew ?_ | with_reducible refine Below.drewN ?_ _ | with_reducible refine Below.alloc1 ?_ _ | with_reducible refine Below.setCell1 ?_ (by first | omega | (simp; done) | (simp; omega)) _ | with_reducible refine Below.step ?_ (by with_reducible assumption)))⟩

end Go.Proofs.Ytolpiaehleefbaa
