/- Contracts of the reference of chapter 13, further: Take, Most, Same. -/
import Derived.Test.YthbflgaekoaigaaRef13
import Derived.Deep.RegionHeld3
namespace Go.Proofs.Ythbflgaekoaigaa
open Go.RowKit
set_option linter.unusedSimpArgs false
set_option linter.unusedVariables false

set_option maxHeartbeats 1000000 in
theorem r13_Take_tup (b r t a now n : Int) (hn : -9223372036854775808 ≤ n) (w : World) :
    Calls Try.prog 8 #[.agg #[.int .i64 b, .int .i64 r], .agg #[.int .i64 t, .int .i64 a], .int .i64 now, .int .i64 n] w fun e w' =>
      e = .returned (.tuple #[.agg #[.int .i64 (bTake b r t a now n).1.1, .int .i64 (bTake b r t a now n).1.2], .bool (bTake b r t a now n).2]) ∧ Below w.heap.size w w' := by
  have hT : Hid (bTake b r t a now n = if n < 0 ∨ bFine b r t a = false ∨ bT b r t a now < n then ((t, a), false) else ((bT b r t a now - n, bA a now), true)) := rfl
  cases hf : bFine b r t a
  · have hF := hide hf
    go_enter Try.func8, Try.ntmps8
    go_wp2_with fail
    refine (r13_Fine_is hF.out _).mono ?_; rintro e w1 ⟨rfl, hb⟩
    obtain ⟨hc_hb, hf_hb⟩ := bcell hb; have hz_hb := hb.size; (try simp at hz_hb)
    have lt_w1 : w.heap.size < w1.heap.size ∧ w.heap.size + 1 < w1.heap.size ∧ w.heap.size + 1 + 1 < w1.heap.size := by omega
    go_wp2_with fail
    exact bodyPost_ret (v := .tuple #[.agg #[.int .i64 t, .int .i64 a], .bool false]) (by simp only [results, Try.results8]; go_simp) rfl ⟨by rw [hT.out, if_pos (.inr (.inl hF.out))], by (repeat (first | with_reducible exact Below.refl _ _ | with_reducible assumption | with_reducible refine Below.drew ?_ | with_reducible refine Below.drewN ?_ _ | with_reducible refine Below.alloc1 ?_ _ | with_reducible refine Below.setCell1 ?_ (by first | omega | (simp; done) | (simp; omega)) _ | with_reducible refine Below.step ?_ (by with_reducible assumption)))⟩
  · have hF := hide hf
    have hbd := bFine_t hf
    have hL := bLevel_f (now := now) hf
    have hTb := bT_bd (now := now) hf
    clear hf
    by_cases hn0 : n < 0
    · go_enter Try.func8, Try.ntmps8
      go_wp2_with fail
      refine (r13_Fine_is hF.out _).mono ?_; rintro e w1 ⟨rfl, hb⟩
      obtain ⟨hc_hb, hf_hb⟩ := bcell hb; have hz_hb := hb.size; (try simp at hz_hb)
      have lt_w1 : w.heap.size < w1.heap.size ∧ w.heap.size + 1 < w1.heap.size ∧ w.heap.size + 1 + 1 < w1.heap.size := by omega
      go_wp2_with fail
      exact bodyPost_ret (v := .tuple #[.agg #[.int .i64 t, .int .i64 a], .bool false]) (by simp only [results, Try.results8]; go_simp) rfl ⟨by rw [hT.out, if_pos (.inl hn0)], by (repeat (first | with_reducible exact Below.refl _ _ | with_reducible assumption | with_reducible refine Below.drew ?_ | with_reducible refine Below.drewN ?_ _ | with_reducible refine Below.alloc1 ?_ _ | with_reducible refine Below.setCell1 ?_ (by first | omega | (simp; done) | (simp; omega)) _ | with_reducible refine Below.step ?_ (by with_reducible assumption)))⟩
    · by_cases hlt : bT b r t a now < n
      · go_enter Try.func8, Try.ntmps8
        go_wp2_with fail
        refine (r13_Fine_is hF.out _).mono ?_; rintro e w1 ⟨rfl, hb⟩
        obtain ⟨hc_hb, hf_hb⟩ := bcell hb; have hz_hb := hb.size; (try simp at hz_hb)
        have lt_w1 : w.heap.size < w1.heap.size ∧ w.heap.size + 1 < w1.heap.size ∧ w.heap.size + 1 + 1 < w1.heap.size := by omega
        go_wp2_with fail
        refine (r13_Level_any _ _ _ _ _ _).mono ?_; rintro e w2 ⟨rfl, hb2⟩
        obtain ⟨hc_hb2, hf_hb2⟩ := bcell hb2; have hz_hb2 := hb2.size; (try simp at hz_hb2)
        have lt_w2 : w.heap.size < w2.heap.size ∧ w.heap.size + 1 < w2.heap.size ∧ w.heap.size + 1 + 1 < w2.heap.size := by omega
        go_wp2_with fail
        exact bodyPost_ret (v := .tuple #[.agg #[.int .i64 t, .int .i64 a], .bool false]) (by simp only [results, Try.results8]; go_simp) rfl ⟨by rw [hT.out, if_pos (.inr (.inr hlt))], by (repeat (first | with_reducible exact Below.refl _ _ | with_reducible assumption | with_reducible refine Below.drew ?_ | with_reducible refine Below.drewN ?_ _ | with_reducible refine Below.alloc1 ?_ _ | with_reducible refine Below.setCell1 ?_ (by first | omega | (simp; done) | (simp; omega)) _ | with_reducible refine Below.step ?_ (by with_reducible assumption)))⟩
      · have hwn : IntKind.i64.wrap (bT b r t a now - n) = bT b r t a now - n := IntWalk.i64_in _ (by omega)
        go_enter Try.func8, Try.ntmps8
        go_wp2_with fail
        refine (r13_Fine_is hF.out _).mono ?_; rintro e w1 ⟨rfl, hb⟩
        obtain ⟨hc_hb, hf_hb⟩ := bcell hb; have hz_hb := hb.size; (try simp at hz_hb)
        have lt_w1 : w.heap.size < w1.heap.size ∧ w.heap.size + 1 < w1.heap.size ∧ w.heap.size + 1 + 1 < w1.heap.size := by omega
        go_wp2_with fail
        refine (r13_Level_any _ _ _ _ _ _).mono ?_; rintro e w2 ⟨rfl, hb2⟩
        obtain ⟨hc_hb2, hf_hb2⟩ := bcell hb2; have hz_hb2 := hb2.size; (try simp at hz_hb2)
        have lt_w2 : w.heap.size < w2.heap.size ∧ w.heap.size + 1 < w2.heap.size ∧ w.heap.size + 1 + 1 < w2.heap.size := by omega
        go_wp2_with fail
        have c0 : w2.cell? ⟨w.heap.size, 0, none⟩ = some (.int .i64 b) := by go_simp
        have c1 : w2.cell? ⟨w.heap.size, 1, none⟩ = some (.int .i64 r) := by go_simp
        have c2 : w2.cell? ⟨w.heap.size + 1, 0, none⟩ = some (.int .i64 t) := by go_simp
        have c3 : w2.cell? ⟨w.heap.size + 1, 1, none⟩ = some (.int .i64 a) := by go_simp
        have k2 : Bk w2 (w.heap.size + 1 + 1) 25 [.int .i64 0, .int .i64 0] := Bk.below (Bk.below (by (repeat (first | with_reducible exact Bk.new' _ _ _ _ (by simp; done) | with_reducible assumption | with_reducible refine Bk.alloc ?_ _ | with_reducible refine Bk.drew ?_ | with_reducible refine Bk.drewN ?_ _ | with_reducible refine Bk.step ?_ (by with_reducible assumption) | with_reducible refine Bk.far ?_ (by first | omega | (simp; done) | (simp; omega)) _))) hb (by first | omega | (simp; done) | (simp; omega))) hb2 (by omega)
        have hbw : Below w.heap.size w w2 := by (repeat (first | with_reducible exact Below.refl _ _ | with_reducible assumption | with_reducible refine Below.drew ?_ | with_reducible refine Below.drewN ?_ _ | with_reducible refine Below.alloc1 ?_ _ | with_reducible refine Below.setCell1 ?_ (by first | omega | (simp; done) | (simp; omega)) _ | with_reducible refine Below.step ?_ (by with_reducible assumption)))
        clear hc_hb hf_hb hc_hb2 hf_hb2
        have HS : Hid (∀ w' : World, Below (w.heap.size + 1 + 1) w2 w' → (w'.cell? ⟨w.heap.size, 0, none⟩ = some (.int .i64 b) ∧ w'.cell? ⟨w.heap.size, 1, none⟩ = some (.int .i64 r) ∧ w'.cell? ⟨w.heap.size + 1, 0, none⟩ = some (.int .i64 t) ∧ w'.cell? ⟨w.heap.size + 1, 1, none⟩ = some (.int .i64 a)) ∧ w2.heap.size ≤ w'.heap.size ∧ Below (w.heap.size + 1 + 1) w2 w') := fun w' hB => ⟨⟨(hB.cell (p := ⟨w.heap.size, 0, none⟩) (by dsimp only; omega)).trans (c0), (hB.cell (p := ⟨w.heap.size, 1, none⟩) (by dsimp only; omega)).trans (c1), (hB.cell (p := ⟨w.heap.size + 1, 0, none⟩) (by dsimp only; omega)).trans (c2), (hB.cell (p := ⟨w.heap.size + 1, 1, none⟩) (by dsimp only; omega)).trans (c3)⟩, hB.size, hB⟩; go_region_held3 (fun w' => (w'.cell? ⟨w.heap.size, 0, none⟩ = some (.int .i64 b) ∧ w'.cell? ⟨w.heap.size, 1, none⟩ = some (.int .i64 r) ∧ w'.cell? ⟨w.heap.size + 1, 0, none⟩ = some (.int .i64 t) ∧ w'.cell? ⟨w.heap.size + 1, 1, none⟩ = some (.int .i64 a)) ∧ w2.heap.size ≤ w'.heap.size ∧ Below (w.heap.size + 1 + 1) w2 w') ((go_split_ands; exact HS.out _ (by (repeat (first | with_reducible exact Below.refl _ _ | with_reducible assumption | with_reducible refine Below.drew ?_ | with_reducible refine Below.drewN ?_ _ | with_reducible refine Below.alloc ?_ (by first | omega | (simp; done) | (simp; omega)) _ | with_reducible refine Below.setCell ?_ (by first | omega | (simp; done) | (simp; omega)) _ | with_reducible refine Below.then_ ?_ (by with_reducible assumption) (by first | omega | (simp; done) | (simp; omega))))))) ((first | (go_at_call 10; refine (r13_Level_any _ _ _ _ _ _).mono ?_; rintro e w3 ⟨rfl, hb3⟩; (have k3 := Bk.below (Bk.drew k2) hb3 (by first | omega | (simp; done) | (simp; omega))); have k3_0 := k3.cell 0; have k3_f0 := k3.frozen 0; have k3_1 := k3.cell 1; have k3_f1 := k3.frozen 1; simp only [List.set_cons_zero, List.set_cons_succ, List.getElem?_cons_zero, List.getElem?_cons_succ] at k3_0 k3_1) | (go_at_call 28; refine ((r13_held_any _ _ _ (by omega) _).lit (v' := .int .i64 (bA a now)) rfl).mono ?_; rintro e w4 ⟨rfl, rfl⟩)))

        go_wp2
        have h3 := hb3.size
        (try simp at h3)
        have k4 := ((k3.set_ 0 (.int .i64 (bLevel b r t a now - n))).set_ 1 (.int .i64 (bA a now)))
        have k4_0 := k4.cell 0; have k4_f0 := k4.frozen 0; have k4_1 := k4.cell 1; have k4_f1 := k4.frozen 1; simp only [List.set_cons_zero, List.set_cons_succ, List.getElem?_cons_zero, List.getElem?_cons_succ] at k4_0 k4_1
        exact bodyPost_ret (v := .tuple #[.agg #[.int .i64 (bLevel b r t a now - n), .int .i64 (bA a now)], .bool true]) (by simp only [results, Try.results8]; go_simp) rfl ⟨by rw [hT.out, if_neg (by simp [hF.out]; omega), hL], by (repeat (first | with_reducible exact Below.refl _ _ | with_reducible assumption | with_reducible refine Below.drew ?_ | with_reducible refine Below.drewN ?_ _ | with_reducible refine Below.alloc1 ?_ _ | with_reducible refine Below.setCell1 ?_ (by first | omega | (simp; done) | (simp; omega)) _ | with_reducible refine Below.step ?_ (by with_reducible assumption)))⟩

theorem r13_Most_any (b r n : Int) (w : World) :
    Calls Try.prog 24 #[.agg #[.int .i64 b, .int .i64 r], .int .i64 n] w fun e w' => e = .returned (.int .i64 (bMost b r n)) ∧ Below w.heap.size w w' := by
  have hM : Hid (bMost b r n = if bGood b r then b + bHeld n 0 1073741824 * r else 0) := rfl
  have h4 : bCheck b r = if bGood b r then 0 else 8 := rfl
  cases hg : bGood b r
  · rw [hg] at h4
    simp only [if_true, if_false, Bool.false_eq_true] at h4
    go_enter Try.func24, Try.ntmps24
    go_wp2_with fail
    refine (r13_Check_any _ _ _).mono ?_; rintro e w1 ⟨rfl, hb⟩
    obtain ⟨hc_hb, hf_hb⟩ := bcell hb; have hz_hb := hb.size; (try simp at hz_hb)
    have lt_w1 : w.heap.size < w1.heap.size := by omega
    go_wp2_with fail
    go_ret
    exact ⟨ret_int (by rw [hM.out, hg]; rfl), by (repeat (first | with_reducible exact Below.refl _ _ | with_reducible assumption | with_reducible refine Below.drew ?_ | with_reducible refine Below.drewN ?_ _ | with_reducible refine Below.alloc1 ?_ _ | with_reducible refine Below.setCell1 ?_ (by first | omega | (simp; done) | (simp; omega)) _ | with_reducible refine Below.step ?_ (by with_reducible assumption)))⟩
  · rw [hg] at h4
    simp only [if_true, if_false, Bool.false_eq_true] at h4
    have hbd := bGood_t hg
    have hh := bHeld_bd (n := n) (show (0 : Int) ≤ 1073741824 by omega)
    have hm := mul_bd hh.1 hh.2 hbd.2.1 hbd.2.2
    rw [Int.mul_comm] at hm
    have hw1 : IntKind.i64.wrap (r * bHeld n 0 1073741824) = r * bHeld n 0 1073741824 := IntWalk.i64_in _ (by omega)
    have hw2 : IntKind.i64.wrap (b + r * bHeld n 0 1073741824) = b + r * bHeld n 0 1073741824 := IntWalk.i64_in _ (by omega)
    go_enter Try.func24, Try.ntmps24
    go_wp2_with fail
    refine (r13_Check_any _ _ _).mono ?_; rintro e w1 ⟨rfl, hb⟩
    obtain ⟨hc_hb, hf_hb⟩ := bcell hb; have hz_hb := hb.size; (try simp at hz_hb)
    have lt_w1 : w.heap.size < w1.heap.size := by omega
    go_wp2_with fail
    go_quiet ((go_at_call 28; exact quiet_left (r13_held_any _ _ _ (by omega) _)))
    go_wp2
    go_ret
    exact ⟨ret_int (by rw [hM.out, hg, Int.mul_comm (bHeld n 0 1073741824) r]; rfl), by (repeat (first | with_reducible exact Below.refl _ _ | with_reducible assumption | with_reducible refine Below.drew ?_ | with_reducible refine Below.drewN ?_ _ | with_reducible refine Below.alloc1 ?_ _ | with_reducible refine Below.setCell1 ?_ (by first | omega | (simp; done) | (simp; omega)) _ | with_reducible refine Below.step ?_ (by with_reducible assumption)))⟩

set_option maxHeartbeats 2000000 in
theorem r13_Same_any (b r t a t' a' now : Int) (w : World) :
    Calls Try.prog 26 #[.agg #[.int .i64 b, .int .i64 r], .agg #[.int .i64 t, .int .i64 a], .agg #[.int .i64 t', .int .i64 a'], .int .i64 now] w fun e w' => e = .returned (.bool (bSame b r t a t' a' now)) ∧ Below w.heap.size w w' := by
  have hS : Hid (bSame b r t a t' a' now = (bFine b r t a && bFine b r t' a' && (bLevel b r t a now == bLevel b r t' a' now))) := rfl
  cases h1 : bFine b r t a <;> cases h2 : bFine b r t' a'
  all_goals
    have H1 := hide h1
    have H2 := hide h2
    clear h1 h2
    go_enter Try.func26, Try.ntmps26
    go_wp2_with fail
    (refine wp_region_qb (by kernel_rfl) (by kernel_rfl) (fun kq => ?_); (try dsimp only [List.append]); (repeat (go_big_quiet_step ((first | (go_at_call 14; with_reducible exact (r13_Fine_is H1.out _).qb) | (go_at_call 14; with_reducible exact (r13_Fine_is H2.out _).qb) | (go_at_call 10; exact (r13_Level_any _ _ _ _ _ _).qb))))); refine wpQuiet_nil ?_; intro wq hwq; have hbq := below_of_class hwq; clear hwq kq)
    go_wp2
    go_ret
    exact ⟨ret_bool (by rw [hS.out, H1.out, H2.out]; rfl), by (repeat (first | with_reducible exact Below.refl _ _ | with_reducible assumption | with_reducible refine Below.drew ?_ | with_reducible refine Below.drewN ?_ _ | with_reducible refine Below.alloc1 ?_ _ | with_reducible refine Below.setCell1 ?_ (by first | omega | (simp; done) | (simp; omega)) _ | with_reducible refine Below.step ?_ (by with_reducible assumption)))⟩

/-! SameBools. -/
theorem SameBools_any (A B : Option Addr) (c d : Nat) (l m : List Bool) (w : World) (hl : l.length ≤ maxLen) (ha : Rd w w.heap.size A (l.map Value.bool)) (hb : Rd w w.heap.size B (m.map Value.bool)) :
    Calls Try.prog 22 #[.slice A l.length c, .slice B m.length d] w fun e w' => e = .returned (.bool (decide (l = m))) ∧ ∃ n, w.drewN n = w' := by
  unfold maxLen at hl
  by_cases hlen : l.length = m.length
  · have hne : ((l.length : Int) != (m.length : Int)) = false := by rw [bne_eq_false_iff_eq]; omega
    have hlen' : l.length ≤ m.length ∧ m.length ≤ l.length := by omega
    have HL := hide hlen
    clear hlen
    go_enter Try.func22, Try.ntmps22
    go_wp2
    go_loopw [5] (fun i wr => ∃ k : Nat, k ≤ l.length ∧ i = .int .i64 k ∧ l.take k = m.take k ∧ ∃ n, w.drewN n = wr) (fun i _ => l.length - (intOf i).toNat)
    case atStart => exact ⟨0, Nat.zero_le _, rfl, rfl, 0, rfl⟩
    case round =>
      obtain ⟨k, hk, rfl, ht, n, rfl⟩ := hrel
      have HT := hide ht
      clear ht
      by_cases hlt : k < l.length
      · obtain ⟨ad, rfl, _, hca⟩ := ha.at_ (k := k) (by simpa using hlt)
        obtain ⟨bd, rfl, _, hcb⟩ := hb.at_ (k := k) (by simp; omega)
        have h2 : k < m.length := by omega
        have hca' : w.cell? (ad.add k) = some (.bool l[k]) := by rw [hca]; simp
        have hcb' : w.cell? (bd.add k) = some (.bool m[k]) := by rw [hcb]; simp
        clear hca hcb ha hb
        by_cases he : l[k] = m[k]
        · have HE := hide he
          have hx : Hid (l.take (k + 1) = m.take (k + 1)) := by rw [Hid, List.take_succ_eq_append_getElem hlt, List.take_succ_eq_append_getElem h2, HT.out, he]
          generalize l[k] = x at *
          generalize m[k] = y at *
          subst he
          go_wp2
          go_quiet (fail)
          go_wp2
          go_roundw
          case rel => exact ⟨k + 1, by omega, by go_num, hx.out, _, rfl⟩
          case measure => simp [intOf]; omega
        · have hn : decide (l = m) = false := by rw [decide_eq_false_iff_not]; intro e; subst e; exact he rfl
          have HN := hide hn
          clear hn
          have hxy : (l[k] == m[k]) = false := by rw [beq_eq_false_iff_ne]; exact he
          generalize l[k] = x at *
          generalize m[k] = y at *
          go_wp2
          go_quiet (fail)
          go_wp2
          go_ret
          exact ⟨ret_bool HN.out.symm, qt_trans ⟨_, rfl⟩ ⟨_, rfl⟩⟩
      · go_wp2
        go_ret
        refine ⟨ret_bool ?_, _, rfl⟩
        have h := HT.out
        rw [List.take_of_length_le (by omega), List.take_of_length_le (by omega)] at h
        rw [eq_comm, decide_eq_true_eq]
        exact h
  · have hne : ((l.length : Int) != (m.length : Int)) = true := by rw [bne_iff_ne]; omega
    go_enter Try.func22, Try.ntmps22
    go_wp2
    go_ret
    exact ⟨ret_bool (by rw [eq_comm, decide_eq_false_iff_not]; intro e; exact hlen (by rw [e])), 0, rfl⟩
end Go.Proofs.Ythbflgaekoaigaa
