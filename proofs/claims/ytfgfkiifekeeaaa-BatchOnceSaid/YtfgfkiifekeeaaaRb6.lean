/- The reference of package batch: Rounds, SameProbes, Same, Light. -/
import Derived.Test.YtfgfkiifekeeaaaRb5
namespace Go.Proofs.Ytfgfkiifekeeaaa
open Go.RowKit Go.Shelf Go.Sort
set_option linter.unusedSimpArgs false
set_option linter.unusedVariables false

/-- k rounds are told, so many are left -/
def rdInv (m n : Int) (k left : Int) : Prop := 0 ≤ k ∧ k ≤ m ∧ left = max 0 (m - k * min n m) ∧ (k = 0 ∨ (k - 1) * min n m < m)
theorem rdInv_0 {m n : Int} (hm : 0 < m) : rdInv m n 0 m := ⟨by omega, by omega, by simp; omega, .inl rfl⟩
theorem rdInv_bd {m n k left : Int} (hm : 0 < m) (hn : 1 ≤ n) (h : rdInv m n k left) : 0 ≤ left ∧ left ≤ m ∧ 0 ≤ k ∧ k ≤ m := by
  obtain ⟨h1, h2, h3, h4⟩ := h
  have hq : 0 ≤ k * min n m := Int.mul_nonneg h1 (by omega)
  omega
theorem rdInv_step {m n k left : Int} (hm : 0 < m) (hn : 1 ≤ n) (h : rdInv m n k left) (hl : 0 < left) : rdInv m n (k + 1) (left - min n left) ∧ 0 ≤ left - min n left ∧ left - min n left < left := by
  obtain ⟨h1, h2, h3, h4⟩ := h
  have hq1 : 1 ≤ min n m := by omega
  have hkq : k ≤ k * min n m := by
    have := Int.mul_le_mul_of_nonneg_left hq1 h1
    omega
  have he : (k + 1) * min n m = k * min n m + min n m := by rw [Int.add_mul, Int.one_mul]
  have h0 : m < n → k = 0 := by
    intro hmn
    rcases Int.lt_or_le 0 k with hk | hk
    · have h5 : m ≤ k * min n m := by
        have h6 : min n m = m := by omega
        rw [h6]
        have := Int.mul_le_mul_of_nonneg_right (show (1 : Int) ≤ k by omega) (show 0 ≤ m by omega)
        omega
      omega
    · omega
  have h00 : k = 0 → k * min n m = 0 := fun hk => by rw [hk, Int.zero_mul]
  refine ⟨⟨by omega, ?_, ?_, .inr ?_⟩, by omega, by omega⟩
  · omega
  · rw [he]
    by_cases hmn : m < n
    · have := h00 (h0 hmn); omega
    · omega
  · rw [show k + 1 - 1 = k by omega]; omega
theorem rdInv_end {m n k left : Int} (hm : 0 < m) (hn : 1 ≤ n) (h : rdInv m n k left) (hl : ¬ 0 < left) : k = (m + min n m - 1) / min n m := by
  obtain ⟨h1, h2, h3, h4⟩ := h
  have hq1 : 0 < min n m := by omega
  have hle : m ≤ k * min n m := by omega
  have hlt : (k - 1) * min n m < m := by
    rcases h4 with h4 | h4
    · subst h4; rw [Int.zero_mul] at hle; omega
    · exact h4
  have he : (k - 1) * min n m = k * min n m - min n m := by rw [Int.sub_mul, Int.one_mul]
  generalize min n m = q at *
  have e1 : k ≤ (m + q - 1) / q := (Int.le_ediv_iff_mul_le hq1).2 (by omega)
  have e2 : (m + q - 1) / q < k + 1 := (Int.ediv_lt_iff_lt_mul hq1).2 (by rw [Int.add_mul, Int.one_mul]; omega)
  omega
set_option maxRecDepth 1000000 in
set_option maxHeartbeats 8000000 in
theorem ref30_Rounds_any (A : Option Addr) (c : Nat) (l : List Pb) (a s n : Int) (w : World) (hl : l.length ≤ 1000) (hS : ∀ x ∈ l, Sm x) (hn : n ≤ 9223372036854775807) (ha : Rd w w.heap.size A (pbs l)) :
    Calls Try.prog 26 #[bsV A l.length c a s, .int .i64 n] w fun e w' => e = .returned (.int .i64 (bRounds ⟨l, a, s⟩ n)) ∧ Below w.heap.size w w' := by
  have HC := fun (W : World) (h : Below w.heap.size w W) => ref30_Check_any A c l a s W hl hS ((ha.below h).more h.size)
  obtain ⟨R, hR⟩ : ∃ R, R = bRounds ⟨l, a, s⟩ n := ⟨_, rfl⟩
  rw [← hR]
  unfold bRounds at hR
  dsimp only at hR
  generalize bCheck ⟨l, a, s⟩ = C at *
  replace hR := hide hR
  go_enter Try.func26, Try.ntmps26
  go_wp2_with fail
  generalize hV : World.alloc w _ = w1
  have hb : Below w.heap.size w w1 := by subst hV; (repeat (first | with_reducible exact Below.refl _ _ | with_reducible assumption | with_reducible refine Below.drew ?_ | with_reducible refine Below.drewN ?_ _ | with_reducible refine Below.alloc1 ?_ _ | with_reducible refine Below.setCell1 ?_ (by first | omega | (simp; done) | (simp; omega)) _ | with_reducible refine Below.step ?_ (by with_reducible assumption)))
  have k0 : Bk w1 w.heap.size 24 (bsC A l.length c a s) := by subst hV; (repeat (first | with_reducible exact Bk.new' _ _ _ _ (by simp; done) | with_reducible assumption | with_reducible refine Bk.alloc ?_ _ | with_reducible refine Bk.drew ?_ | with_reducible refine Bk.drewN ?_ _ | with_reducible refine Bk.step ?_ (by with_reducible assumption) | with_reducible refine Bk.far ?_ (by first | omega | (simp; done) | (simp; omega)) _))
  clear hV
  refine (HC _ hb).mono ?_; rintro e w2 ⟨rfl, hx⟩
  replace hb := hb.step hx
  replace k0 := k0.step hx
  clear hx HC
  have k0_0 := k0.cell 0; have k0_f0 := k0.frozen 0; have k0_1 := k0.cell 1; have k0_f1 := k0.frozen 1; have k0_2 := k0.cell 2; have k0_f2 := k0.frozen 2; simp only [List.set_cons_zero, List.set_cons_succ, List.getElem?_cons_zero, List.getElem?_cons_succ] at k0_0 k0_1 k0_2; have lt_k0 := k0.lt
  by_cases hC0 : C ≠ 0
  · have e1 : (C != 0) = true := by simpa using hC0
    have hR0 : R = 0 := hR.out.trans (if_pos (.inr hC0))
    clear hR hC0
    subst hR0
    go_wp2
    go_ret
    exact ⟨rfl, hb⟩
  obtain rfl : C = 0 := Classical.not_not.1 hC0
  clear hC0
  by_cases h0 : l.length = 0
  · have e0 : ((l.length : Int) == 0) = true := by rw [beq_iff_eq]; omega
    have hR0 : R = 0 := hR.out.trans (if_pos (.inl h0))
    clear hR h0
    subst hR0
    go_wp2
    go_ret
    exact ⟨rfl, hb⟩
  have e0 : ((l.length : Int) == 0) = false := by rw [beq_eq_false_iff_ne]; omega
  have hm : (0 : Int) < (l.length : Int) := by omega
  replace hR := hide (hR.out.trans (if_neg (fun h => h.elim h0 (fun h => h rfl))))
  clear h0
  by_cases h1 : n < 1
  · have hR0 : R = -1 := hR.out.trans (if_pos h1)
    clear hR
    subst hR0
    go_wp2
    go_ret
    exact ⟨rfl, hb⟩
  replace hR := hide (hR.out.trans (if_neg h1))
  have h2 : 1 ≤ n := by omega
  have hl2 : (l.length : Int) ≤ 1000 := by omega
  clear h1
  go_wp2_with fail
  go_loopw [5, 6] (fun kv lv wr => ∃ k left : Int, kv = .int .i64 k ∧ lv = .int .i64 left ∧ Hid (rdInv l.length n k left) ∧ w2 = wr) (fun _ lv _ => (intOf lv).toNat)
  case atStart => exact ⟨0, _, rfl, rfl, rdInv_0 hm, rfl⟩
  case round =>
    obtain ⟨k, left, rfl, rfl, HI, rfl⟩ := hrel
    obtain ⟨b1, b2, b3, b4⟩ := rdInv_bd hm h2 HI.out
    by_cases hlt : 0 < left
    · obtain ⟨h5, h6, h7⟩ := rdInv_step hm h2 HI.out hlt
      replace h5 := hide h5
      go_wp2_with fail
      go_roundw
      case rel => exact ⟨k + 1, left - min n left, rfl, rfl, h5, by first | rfl | trivial⟩
      case measure => simp [intOf]; omega
    · have hE := hide (rdInv_end hm h2 HI.out hlt)
      go_wp2
      go_ret
      exact ⟨ret_int (by rw [hR.out]; exact hE.out), hb⟩
set_option maxRecDepth 100000 in
theorem ref30_SameProbes_any (A B : Option Addr) (c d : Nat) (l m : List Pb) (w : World) (hl : l.length ≤ maxLen) (ha : Rd w w.heap.size A (pbs l)) (hb : Rd w w.heap.size B (pbs m)) :
    Calls Try.prog 16 #[.slice A l.length c, .slice B m.length d] w fun e w' => e = .returned (.bool (decide (l = m))) ∧ ∃ n, w.drewN n = w' := by
  unfold maxLen at hl
  by_cases hlen : l.length = m.length
  · have hne : ((l.length : Int) != (m.length : Int)) = false := by rw [bne_eq_false_iff_eq]; omega
    have hlen' : l.length ≤ m.length ∧ m.length ≤ l.length := by omega
    have HL := hide hlen
    clear hlen
    go_enter Try.func16, Try.ntmps16
    go_wp2
    go_loopw [5] (fun i wr => ∃ k : Nat, k ≤ l.length ∧ i = .int .i64 k ∧ Hid (l.take k = m.take k) ∧ ∃ n, w.drewN n = wr) (fun i _ => l.length - (intOf i).toNat)
    case atStart => exact ⟨0, Nat.zero_le _, rfl, rfl, 0, rfl⟩
    case round =>
      obtain ⟨k, hk, rfl, HT, n, rfl⟩ := hrel
      by_cases hlt : k < l.length
      · obtain ⟨ad, rfl, _, a0, a1⟩ := ha.pb hlt
        obtain ⟨bd, rfl, _, b0, b1⟩ := hb.pb (k := k) (by omega)
        have h2 : k < m.length := by omega
        have hE := fun (q : Bool) (hq : q = decide (l[k] = m[k])) => (rb_eq l[k] m[k] q hq).2
        by_cases he : l[k] = m[k]
        · have hE1 := hE true (by simp [he])
          have HE := hide he
          clear he hE
          go_wp2_with fail
          go_quiet (fail)
          go_wp2
          go_roundw
          case rel => exact ⟨k + 1, by omega, by go_num, take_eq_succ l m k hlt h2 HT.out HE.out, _, rfl⟩
          case measure => simp [intOf]; omega
        · have hE1 := hE false (by simp [he])
          clear hE
          go_wp2_with fail
          go_quiet (fail)
          go_wp2
          go_ret
          exact ⟨ret_bool (by rw [eq_comm, decide_eq_false_iff_not]; intro e; subst e; exact he rfl), qt_trans ⟨_, rfl⟩ ⟨_, rfl⟩⟩
      · go_wp2
        go_ret
        refine ⟨ret_bool ?_, _, rfl⟩
        have h := HT.out
        rw [List.take_of_length_le (by omega), List.take_of_length_le (by omega)] at h
        rw [eq_comm, decide_eq_true_eq]
        exact h
  · have hne : ((l.length : Int) != (m.length : Int)) = true := by rw [bne_iff_ne]; omega
    go_enter Try.func16, Try.ntmps16
    go_wp2
    go_ret
    exact ⟨ret_bool (by rw [eq_comm, decide_eq_false_iff_not]; intro e; exact hlen (by rw [e])), 0, rfl⟩
set_option maxRecDepth 100000 in
set_option maxHeartbeats 4000000 in
theorem ref30_Same_any (A B : Option Addr) (c d : Nat) (l m : List Pb) (a s a' s' : Int) (w : World) (hl : l.length ≤ 1000) (ha : Rd w w.heap.size A (pbs l)) (hb : Rd w w.heap.size B (pbs m)) :
    Calls Try.prog 14 #[bsV A l.length c a s, bsV B m.length d a' s'] w fun e w' => e = .returned (.bool (decide ((⟨l, a, s⟩ : Bs) = ⟨m, a', s'⟩))) ∧ Below w.heap.size w w' := by
  have HE := fun (W : World) (h : Below w.heap.size w W) => ref30_SameProbes_any A B c d l m W (by unfold maxLen; omega) ((ha.below h).more h.size) ((hb.below h).more h.size)
  have key : decide ((⟨l, a, s⟩ : Bs) = ⟨m, a', s'⟩) = (decide (l = m) && decide (a = a') && decide (s = s')) := by
    rw [Bool.eq_iff_iff]; simp [and_assoc]
  rw [key]
  clear key
  generalize decide (l = m) = D at *
  cases D with
  | false =>
    go_enter Try.func14, Try.ntmps14
    go_wp2_with fail
    generalize hV : World.alloc (World.alloc w _) _ = w1
    have hb1 : Below w.heap.size w w1 := by subst hV; (repeat (first | with_reducible exact Below.refl _ _ | with_reducible assumption | with_reducible refine Below.drew ?_ | with_reducible refine Below.drewN ?_ _ | with_reducible refine Below.alloc1 ?_ _ | with_reducible refine Below.setCell1 ?_ (by first | omega | (simp; done) | (simp; omega)) _ | with_reducible refine Below.step ?_ (by with_reducible assumption)))
    clear hV
    refine (HE _ hb1).mono ?_; rintro e w2 ⟨rfl, n, rfl⟩
    go_wp2
    go_ret
    exact ⟨rfl, by (repeat (first | with_reducible exact Below.refl _ _ | with_reducible assumption | with_reducible refine Below.drew ?_ | with_reducible refine Below.drewN ?_ _ | with_reducible refine Below.alloc1 ?_ _ | with_reducible refine Below.setCell1 ?_ (by first | omega | (simp; done) | (simp; omega)) _ | with_reducible refine Below.step ?_ (by with_reducible assumption)))⟩
  | true =>
    by_cases h1 : a = a' <;> by_cases h2 : s = s'
    all_goals
      have e1 : (a == a') = decide (a = a') := by rw [Bool.eq_iff_iff]; simp
      have e2 : (s == s') = decide (s = s') := by rw [Bool.eq_iff_iff]; simp
      first | rw [decide_eq_true h1] at * | rw [decide_eq_false h1] at *
      first | rw [decide_eq_true h2] at * | rw [decide_eq_false h2] at *
      clear h1 h2
      go_enter Try.func14, Try.ntmps14
      go_wp2_with fail
      generalize hV : World.alloc (World.alloc w _) _ = w1
      have hb1 : Below w.heap.size w w1 := by subst hV; (repeat (first | with_reducible exact Below.refl _ _ | with_reducible assumption | with_reducible refine Below.drew ?_ | with_reducible refine Below.drewN ?_ _ | with_reducible refine Below.alloc1 ?_ _ | with_reducible refine Below.setCell1 ?_ (by first | omega | (simp; done) | (simp; omega)) _ | with_reducible refine Below.step ?_ (by with_reducible assumption)))
      have k0 : Bk w1 w.heap.size 24 (bsC A l.length c a s) := by subst hV; (repeat (first | with_reducible exact Bk.new' _ _ _ _ (by simp; done) | with_reducible assumption | with_reducible refine Bk.alloc ?_ _ | with_reducible refine Bk.drew ?_ | with_reducible refine Bk.drewN ?_ _ | with_reducible refine Bk.step ?_ (by with_reducible assumption) | with_reducible refine Bk.far ?_ (by first | omega | (simp; done) | (simp; omega)) _))
      have k1 : Bk w1 (w.heap.size + 1) 24 (bsC B m.length d a' s') := by subst hV; (repeat (first | with_reducible exact Bk.new' _ _ _ _ (by simp; done) | with_reducible assumption | with_reducible refine Bk.alloc ?_ _ | with_reducible refine Bk.drew ?_ | with_reducible refine Bk.drewN ?_ _ | with_reducible refine Bk.step ?_ (by with_reducible assumption) | with_reducible refine Bk.far ?_ (by first | omega | (simp; done) | (simp; omega)) _))
      clear hV
      refine (HE _ hb1).mono ?_; rintro e w2 ⟨rfl, n, rfl⟩
      replace k0 := k0.drewN n
      replace k1 := k1.drewN n
      have k0_0 := k0.cell 0; have k0_f0 := k0.frozen 0; have k0_1 := k0.cell 1; have k0_f1 := k0.frozen 1; have k0_2 := k0.cell 2; have k0_f2 := k0.frozen 2; simp only [List.set_cons_zero, List.set_cons_succ, List.getElem?_cons_zero, List.getElem?_cons_succ] at k0_0 k0_1 k0_2; have lt_k0 := k0.lt; have k1_0 := k1.cell 0; have k1_f0 := k1.frozen 0; have k1_1 := k1.cell 1; have k1_f1 := k1.frozen 1; have k1_2 := k1.cell 2; have k1_f2 := k1.frozen 2; simp only [List.set_cons_zero, List.set_cons_succ, List.getElem?_cons_zero, List.getElem?_cons_succ] at k1_0 k1_1 k1_2; have lt_k1 := k1.lt
      go_wp2
      go_ret
      exact ⟨rfl, by (repeat (first | with_reducible exact Below.refl _ _ | with_reducible assumption | with_reducible refine Below.drew ?_ | with_reducible refine Below.drewN ?_ _ | with_reducible refine Below.alloc1 ?_ _ | with_reducible refine Below.setCell1 ?_ (by first | omega | (simp; done) | (simp; omega)) _ | with_reducible refine Below.step ?_ (by with_reducible assumption)))⟩
def bLight (l : List Pb) : Bool := decide (l.length ≤ 70) && l.all fun x => decide (x.who.size ≤ 100) && decide (x.user.size ≤ 100)
theorem bLight_ok {l : List Pb} (h : bLight l = true) : l.length ≤ 70 ∧ ∀ x ∈ l, Sm x := by
  unfold bLight at h
  rw [Bool.and_eq_true, decide_eq_true_eq, List.all_eq_true] at h
  exact ⟨h.1, fun x hx => by have := h.2 x hx; simpa using this⟩
set_option maxRecDepth 100000 in
set_option maxHeartbeats 4000000 in
theorem ref30_Light_any (A : Option Addr) (c : Nat) (l : List Pb) (w : World) (hl : l.length ≤ maxLen) (ha : Rd w w.heap.size A (pbs l)) :
    Calls Try.prog 7 #[.slice A l.length c] w fun e w' => e = .returned (.bool (bLight l)) ∧ w = w' := by
  unfold maxLen at hl
  by_cases h7 : 70 < l.length
  · have h7I : (70 : Int) < (l.length : Int) := by omega
    have hR : bLight l = false := by unfold bLight; rw [decide_eq_false (by omega)]; rfl
    rw [hR]
    clear h7 hR
    go_enter Try.func7, Try.ntmps7
    go_wp2
    go_ret
    exact ⟨rfl, rfl⟩
  have h7I : (l.length : Int) ≤ 70 := by omega
  obtain ⟨R, hR⟩ : ∃ R, R = bLight l := ⟨_, rfl⟩
  rw [← hR]
  unfold bLight at hR
  rw [decide_eq_true (by omega), Bool.true_and] at hR
  replace hR := hide hR
  clear h7
  go_enter Try.func7, Try.ntmps7
  go_wp2
  go_loopw [3] (fun i wr => ∃ k : Nat, k ≤ l.length ∧ i = .int .i64 k ∧ Hid (∀ x ∈ l.take k, (decide (x.who.size ≤ 100) && decide (x.user.size ≤ 100)) = true) ∧ w = wr) (fun i _ => l.length - (intOf i).toNat)
  case atStart => exact ⟨0, Nat.zero_le _, rfl, by simp [Hid], rfl⟩
  case round =>
    obtain ⟨k, hk, rfl, HT, rfl⟩ := hrel
    by_cases hlt : k < l.length
    · obtain ⟨ad, rfl, hadb, c1, c2⟩ := ha.pb hlt
      have hno : Hid ((decide (l[k].who.size ≤ 100) && decide (l[k].user.size ≤ 100)) = false → R = false) := fun h => by
        rw [hR.out, List.all_eq_false]
        exact ⟨l[k], List.getElem_mem hlt, by rw [h]; decide⟩
      have hyes : Hid ((decide (l[k].who.size ≤ 100) && decide (l[k].user.size ≤ 100)) = true → ∀ x ∈ l.take (k + 1), (decide (x.who.size ≤ 100) && decide (x.user.size ≤ 100)) = true) := fun h x hx => by
        rw [take_snocL l k hlt, List.mem_append] at hx
        rcases hx with hx | hx
        · exact HT.out x hx
        · simp only [List.mem_singleton] at hx; rw [hx]; exact h
      generalize hx : l[k] = x at *
      replace hx := hide hx
      obtain ⟨y, z⟩ := x
      dsimp only at c1 c2 hno hyes
      by_cases hy : y.size ≤ 100
      case neg =>
        have hyI : (100 : Int) < (y.size : Int) := by omega
        have hR0 : R = false := hno.out (by rw [decide_eq_false hy]; rfl)
        subst hR0
        clear hy
        go_wp2
        go_ret
        exact ⟨rfl, rfl⟩
      have hyI : (y.size : Int) ≤ 100 := by omega
      by_cases hz : z.size ≤ 100
      case neg =>
        have hzI : (100 : Int) < (z.size : Int) := by omega
        have hR0 : R = false := hno.out (by rw [decide_eq_false hz, Bool.and_false])
        subst hR0
        clear hz hy
        go_wp2
        go_ret
        exact ⟨rfl, rfl⟩
      have hzI : (z.size : Int) ≤ 100 := by omega
      have HT2 := hide (hyes.out (by rw [decide_eq_true hy, decide_eq_true hz]; rfl))
      clear hy hz
      go_wp2
      go_roundw
      case rel => exact ⟨k + 1, by omega, by go_num, HT2, by first | rfl | trivial⟩
      case measure => simp [intOf]; omega
    · have hR0 : R = true := by
        rw [hR.out, List.all_eq_true]
        have := HT.out
        rwa [List.take_of_length_le (by omega)] at this
      subst hR0
      go_wp2
      go_ret
      exact ⟨rfl, rfl⟩
end Go.Proofs.Ytfgfkiifekeeaaa
