/- Law 15: WheelSlots, walked. (under way) -/
import Derived.Test.YtbljiohdfjmhfaaAwake15
namespace Go.Proofs.Ytbljiohdfjmhfaa
open Go.RowKit Go.Sort Go.Maps
open Dn (ltP)
set_option linter.unusedSimpArgs false
set_option linter.unusedVariables false

structure Pln where
  id : Int
  inn : Int
  gap : Int
  stop : Bool
instance : Inhabited Pln := ⟨⟨0, 0, 0, false⟩⟩
abbrev plC (x : Pln) : List Value := [.int .u8 x.id, .int .u8 x.inn, .int .u8 x.gap, .bool x.stop]
abbrev plR (l : List Pln) : List Value := l.flatMap plC
theorem plR_length (l : List Pln) : (plR l).length = 4 * l.length := by
  induction l with
  | nil => rfl
  | cons a l ih => simp only [plR, List.flatMap_cons, List.length_append, List.length_cons] at *; simp only [List.length_nil] at *; omega
theorem plR_get (l : List Pln) (k : Nat) (h : k < l.length) : (plR l)[k * 4]? = some (.int .u8 l[k].id) ∧ (plR l)[k * 4 + 1]? = some (.int .u8 l[k].inn) ∧ (plR l)[k * 4 + 2]? = some (.int .u8 l[k].gap) ∧ (plR l)[k * 4 + 3]? = some (.bool l[k].stop) := by
  induction l generalizing k with
  | nil => simp at h
  | cons a l ih =>
    cases k with
    | zero => simp [plR]
    | succ k =>
      have := ih k (by simpa using h)
      have e : ∀ j, (plR (a :: l))[(k + 1) * 4 + j]? = (plR l)[k * 4 + j]? := fun j => by
        rw [show (k + 1) * 4 + j = (k * 4 + j) + 4 by omega]
        simp [plR]
      have e0 := e 0
      simp only [Nat.add_zero] at e0
      rw [e0, e 1, e 2, e 3]
      simpa using this
theorem Rd.pl {w : World} {B : Nat} {A : Option Addr} {l : List Pln} (h : Rd w B A (plR l)) {k : Nat} (hk : k < l.length) :
    ∃ ad, A = some ad ∧ ad.block < B ∧ w.cell? (ad.add (k * 4)) = some (.int .u8 l[k].id) ∧ w.cell? { block := (ad.add (k * 4)).block, off := (ad.add (k * 4)).off + 1 } = some (.int .u8 l[k].inn) ∧
      w.cell? { block := (ad.add (k * 4)).block, off := (ad.add (k * 4)).off + 2 } = some (.int .u8 l[k].gap) ∧ w.cell? { block := (ad.add (k * 4)).block, off := (ad.add (k * 4)).off + 3 } = some (.bool l[k].stop) := by
  obtain ⟨ad, e, hb, hc⟩ := h (by intro e; have := plR_length l; rw [e] at this; simp at this; omega)
  obtain ⟨q0, q1, q2, q3⟩ := plR_get l k hk
  have f : ∀ (x : Addr) (i : Nat), i ≠ 0 → x.add i = { block := x.block, off := x.off + i } := fun x i hi => by simp [Addr.add, hi]
  exact ⟨ad, e, hb, hc _ _ q0, by rw [← f _ 1 (by omega), add_add']; exact hc _ _ q1, by rw [← f _ 2 (by omega), add_add']; exact hc _ _ q2, by rw [← f _ 3 (by omega), add_add']; exact hc _ _ q3⟩

set_option maxHeartbeats 4000000 in
set_option maxRecDepth 100000 in
theorem WheelSlots_walk (a b : Int) (A : Option Addr) (c : Nat) (l : List Pln) (ha : 0 ≤ a ∧ a ≤ 255) (hb : 0 ≤ b ∧ b ≤ 255) (hl : l.length ≤ maxLen) (hp : ∀ p ∈ l, (0 ≤ p.id ∧ p.id ≤ 255) ∧ (0 ≤ p.inn ∧ p.inn ≤ 255) ∧ 0 ≤ p.gap ∧ p.gap ≤ 255) (w : World) (hA : Rd w w.heap.size A (plR l)) :
    Calls Try.prog 6 #[.int .u8 a, .int .u8 b, .slice A l.length c] w fun e w' => e = .returned (.bool true) ∧ Below w.heap.size w w' := by
  unfold maxLen at hl
  by_cases h40 : 40 < l.length
  · have h40' : (40 : Int) < l.length := by omega
    go_enter Try.func6, Try.ntmps6
    go_wp2_with fail
    refine (awake_any _).mono ?_
    rintro e w' ⟨rfl, hb⟩
    go_wp2
    go_ret
    exact ⟨rfl, hb⟩
  · have h40' : ¬ (40 : Int) < l.length := by omega
    obtain ⟨n, hn⟩ : ∃ n : Nat, a.tmod 32 = n := ⟨(a.tmod 32).toNat, by rw [Int.tmod_eq_emod_of_nonneg ha.1]; omega⟩
    obtain ⟨m, hm⟩ : ∃ m : Nat, b.tmod 32 = m := ⟨(b.tmod 32).toNat, by rw [Int.tmod_eq_emod_of_nonneg hb.1]; omega⟩
    have hn2 : n < 32 := by rw [Int.tmod_eq_emod_of_nonneg ha.1] at hn; omega
    have hm2 : m < 32 := by rw [Int.tmod_eq_emod_of_nonneg hb.1] at hm; omega
    go_enter Try.func6, Try.ntmps6
    go_wp2_with fail
    rw [show (1 + (n : Int)) = ((n + 1 : Nat) : Int) by omega]
    refine (wh_New _ (n + 1) (by omega)).mono ?_
    rintro e w1 ⟨hb1, gv, wv, av, rv, rfl, v1, fv⟩
    have lv := v1.lt
    go_wp2_with fail
    rw [show (1 + (m : Int)) = ((m + 1 : Nat) : Int) by omega]
    refine (wh_New _ (m + 1) (by omega)).mono ?_
    rintro e w2 ⟨hb2, gw, ww, aw, rw_, rfl, u2, fw⟩
    have v2 := v1.step hb2
    have hbw := hb1.then_ hb2 hb1.size
    have hd1 : ∀ i ∈ fpOf gv wv av rv, i ∉ fpOf gw ww aw rw_ := fun i h1 h2 => by have := lv i h1; have := fw i h2; omega
    have hd2 : ∀ i ∈ fpOf gw ww aw rw_, i ∉ fpOf gv wv av rv := fun i h2 h1 => by have := lv i h1; have := fw i h2; omega
    have fw' : ∀ i ∈ fpOf gw ww aw rw_, w.heap.size ≤ i := fun i h => by have := fw i h; have := hb1.size; omega
    have F1 := fun {x y : World} (f : FpW (fpOf gv wv av rv) x y) (h : Below w.heap.size w x) => h.trans (f.toBelow h.size fv)
    have F2 := fun {x y : World} (f : FpW (fpOf gw ww aw rw_) x y) (h : Below w.heap.size w x) => h.trans (f.toBelow h.size fw')
    clear lv fw v1 hb1 hb2 hn hm
    go_wp2_with fail
    go_loopw [11, 12] (fun t i wr => ∃ (k : Nat) (T : Int) (L : IL), k ≤ l.length ∧ i = .int .i64 k ∧ t = .int .i64 T ∧ 0 ≤ T ∧ T ≤ 255 * k ∧ Wh wr gv wv av rv ⟨n + 1, T, L⟩ ∧ Wh wr gw ww aw rw_ ⟨m + 1, T, L⟩ ∧ Below w.heap.size w wr) (fun _ i _ => l.length - (intOf i).toNat)
    case atStart => exact ⟨0, 0, [], Nat.zero_le _, rfl, rfl, by omega, by omega, v2, u2, hbw⟩
    case round =>
      obtain ⟨k, T, L, hk, rfl, rfl, hT0, hT1, v, u, hbr⟩ := hrel
      clear v2 u2 hbw
      by_cases hlt : k < l.length
      · have hlt' : (k : Int) < l.length := by omega
        obtain ⟨ad, rfl, _, q0, q1, q2, q3⟩ := (hA.below hbr).pl hlt
        obtain ⟨p0, p1, p2⟩ := hp l[k] (List.getElem_mem hlt)
        generalize l[k] = x at *
        obtain ⟨id, inn, gap, stop⟩ := x
        simp only at q0 q1 q2 q3 p0 p1 p2
        have hbb : ∀ (W' : World), Below w.heap.size wr W' → W'.cell? (ad.add (k * 4)) = some (.int .u8 id) := fun W' h => (h.cell (by rw [add_block]; omega)).trans q0
        have hset : setOk id (T + 1 + inn) T = true := by simp [setOk]; omega
        go_wp2_with fail
        refine (wh_Set _ gv wv av rv ⟨n + 1, T, L⟩ id (T + 1 + inn) (wfi (by omega)) (wfi (by omega)) v).mono ?_
        rintro e w3 ⟨he, v3, f3⟩
        simp only [hset, if_true] at he v3
        subst he
        have g3 : Below w.heap.size wr w3 := f3.toBelow hbr.size fv
        have u3 := u.frame f3 hd2
        have hb3 := F1 f3 hbr
        have q0' := hbb _ g3
        go_wp2_with fail
        refine (wh_Set _ gw ww aw rw_ ⟨m + 1, T, L⟩ id (T + 1 + inn) (wfi (by omega)) (wfi (by omega)) u3).mono ?_
        rintro e w4 ⟨he, u4, f4⟩
        simp only [hset, if_true] at he u4
        subst he
        have g4 : Below w.heap.size wr w4 := g3.trans (f4.toBelow hb3.size fw')
        have v4 := v3.frame f4 hd1
        have hb4 := F2 f4 hb3
        have q2' : w4.cell? { block := (ad.add (k * 4)).block, off := (ad.add (k * 4)).off + 2 } = some (.int .u8 gap) := (g4.cell (by simp only [add_block]; omega)).trans q2
        clear q0' q0 q1 q2 q3 hbb g3 g4 hset v u v3 u3 f3 f4 hbr
        generalize (id, T + 1 + inn) :: dropK id L = L1 at *
        by_cases hg : gap = 0
        · subst hg
          go_wp2_with fail
          refine (wh_Go_no _ gv wv av rv ⟨n + 1, T, L1⟩ T v4 (.inl (Int.le_refl _))).mono ?_
          rintro e w5 ⟨rfl, b5⟩
          have v5 := v4.step b5
          have u5 := u4.step b5
          have hb5 := hb4.then_ b5 hb4.size
          go_wp2_with fail
          refine (wh_Go_no _ gw ww aw rw_ ⟨m + 1, T, L1⟩ T u5 (.inl (Int.le_refl _))).mono ?_
          rintro e w6 ⟨rfl, b6⟩
          have v6 := v5.step b6
          have u6 := u5.step b6
          have hb6 := hb5.then_ b6 hb5.size
          go_wp2_with fail
          refine (wh_Len _ gv wv av rv ⟨n + 1, T, L1⟩ v6).mono ?_
          rintro e w7 ⟨rfl, b7⟩
          have v7 := v6.step b7
          have u7 := u6.step b7
          have hb7 := hb6.then_ b7 hb6.size
          go_wp2_with fail
          refine (wh_Len _ gw ww aw rw_ ⟨m + 1, T, L1⟩ u7).mono ?_
          rintro e w8 ⟨rfl, b8⟩
          have v8 := v7.step b8
          have u8 := u7.step b8
          have hb8 := hb7.then_ b8 hb7.size
          go_wp2_with fail
          refine wp_loop_rounds 1 ?_
          rw [rounds_succ]
          go_wp2
          exact ⟨⟨k + 1, T, L1, by omega, by go_num, rfl, by omega, by omega, v8, u8, hb8⟩, by simp [intOf]; omega⟩
        · have lw := u4.lt
          go_wp2_with fail
          refine (wh_Go _ gv wv av rv ⟨n + 1, T, L1⟩ (T + gap) v4 (by simp only; omega)).mono ?_
          rintro e w5 ⟨A1, c1, l1, rfl, p5, so5, r5, fr5, v5, f5⟩
          have u5 := u4.frame f5 hd2
          have hb5 := F1 f5 hb4
          go_wp2_with fail
          refine (wh_Go _ gw ww aw rw_ ⟨m + 1, T, L1⟩ (T + gap) u5 (by simp only; omega)).mono ?_
          rintro e w6 ⟨A2, c2, l2, rfl, p6, so6, r6, fr6, u6, f6⟩
          have e12 := so_eq (p5.trans p6.symm) so5 so6
          subst e12
          have v6 := v5.frame f6 hd1
          have hb6 := F2 f6 hb5
          have r5 := f6.rd r5 (fun a' e hm => by have := lw _ hm; have := fr5 a' e; omega)
          have few : l1.length ≤ 256 := by
            have := v4.few
            have := p5.length_eq
            have := List.length_filter_le (fun p : Int × Int => decide (p.2 ≤ T + gap)) L1
            simp only at *
            omega
          clear v4 u4 v5 u5 p5 p6 so5 so6 f5 f6 fr5 fr6 lw
          simp only at v6 u6
          generalize L1.filter (fun p => decide (T + gap < p.2)) = L2 at *
          go_wp2_with fail
          refine (wh_Len _ gv wv av rv ⟨n + 1, T + gap, L2⟩ v6).mono ?_
          rintro e w7 ⟨rfl, b7⟩
          have v7 := v6.step b7
          have u7 := u6.step b7
          have hb7 := hb6.then_ b7 hb6.size
          replace r5 := r5.step b7
          replace r6 := r6.step b7
          go_wp2_with fail
          refine (wh_Len _ gw ww aw rw_ ⟨m + 1, T + gap, L2⟩ u7).mono ?_
          rintro e w8 ⟨rfl, b8⟩
          have v8 := v7.step b8
          have u8 := u7.step b8
          have hb8 := hb7.then_ b8 hb7.size
          replace r5 := r5.step b8
          replace r6 := r6.step b8
          go_wp2_with fail
          go_loopw [16] (fun i wz => ∃ j : Nat, j ≤ l1.length ∧ i = .int .i64 j ∧ ∃ q, w8.drewN q = wz) (fun i _ => l1.length - (intOf i).toNat)
          case atStart => exact ⟨0, Nat.zero_le _, rfl, 0, rfl⟩
          case round =>
            obtain ⟨j, hj, rfl, q, rfl⟩ := hrel
            by_cases hjl : j < l1.length
            · have hjl' : (j : Int) < l1.length := by omega
              obtain ⟨a1, rfl, _, x0, x1⟩ := r5.du hjl
              obtain ⟨a2, rfl, _, y0, y1⟩ := r6.du hjl
              generalize l1[j] = z at *
              obtain ⟨z1, z2⟩ := z
              simp only at x0 x1 y0 y1
              go_wp2
              go_quiet (fail)
              go_wp2
              go_roundw
              case rel => exact ⟨j + 1, by omega, by go_num, _, rfl⟩
              case measure => simp [intOf]; omega
            · have hjl' : ¬ (j : Int) < l1.length := by omega
              have b9 : Below w8.heap.size w8 (w8.drewN q) := qt_below ⟨q, rfl⟩
              have v9 := v8.step b9
              have u9 := u8.step b9
              have hb9 := hb8.then_ b9 hb8.size
              go_wp2
              exact ⟨⟨k + 1, T + gap, L2, by omega, by go_num, rfl, by omega, by omega, v9, u9, hb9⟩, by simp [intOf]; omega⟩
      · have hkn : ¬ (k : Int) < l.length := by omega
        go_wp2_with fail
        refine (awake_any _).mono ?_
        rintro e w' ⟨rfl, hb⟩
        go_wp2
        go_ret
        exact ⟨rfl, hbr.then_ hb hbr.size⟩
end Go.Proofs.Ytbljiohdfjmhfaa
