/- Package drr: slices.Delete at Flow. -/
import Derived.Test.YteblbleehnkcmaaDrr4
import Derived.Test.YteblbleehnkcmaaDel
import Derived.Deep.DeepCutAuto
import Derived.Lib.SliceRun
namespace Go.Proofs.Yteblbleehnkcmaa
open Go.RowKit Go.Sort
set_option linter.unusedSimpArgs false
set_option linter.unusedVariables false

theorem flR_append (a b : List Fl) : flR (a ++ b) = flR a ++ flR b := by simp [flR]
theorem flR_take (l : List Fl) (k : Nat) : (flR l).take (k * 3) = flR (l.take k) := by
  induction l generalizing k with
  | nil => simp
  | cons a l ih =>
    cases k with
    | zero => simp
    | succ k =>
      have := ih k
      rw [show (k + 1) * 3 = k * 3 + 3 by omega]
      simp only [flR, List.flatMap_cons, List.take_succ_cons] at *
      rw [show k * 3 + 3 = (flC a).length + k * 3 by simp [flC]; omega, List.take_append, Nat.add_sub_cancel_left, this, List.take_of_length_le (by simp [flC])]
theorem flR_drop (l : List Fl) (k : Nat) : (flR l).drop (k * 3) = flR (l.drop k) := by
  have h1 : flR l = flR (l.take k) ++ flR (l.drop k) := by rw [← flR_append, List.take_append_drop]
  rw [h1]
  by_cases hk : k ≤ l.length
  · rw [List.drop_left' (by rw [flR_length]; simp; omega)]
  · rw [List.drop_of_length_le (by rw [List.length_append, flR_length, flR_length]; simp; omega), List.drop_of_length_le (by omega)]; rfl
set_option maxRecDepth 100000 in
set_option maxHeartbeats 4000000 in
theorem fl_Delete (g c i m : Nat) (l : List Fl) (base : Nat) (w : World) (hm : l.length = m + 1) (hl : m ≤ 1000) (hlt : i ≤ m) (hcm : m + 1 ≤ c ∧ c ≤ 9223372036854775807) (hbase : base ≤ w.heap.size) (own : w.ownsRow base 70 3 (.slice (some ⟨g, 0, none⟩) (m + 1) c) (m + 1) (flR l)) :
    Calls Try.prog 41 #[.slice (some ⟨g, 0, none⟩) (m + 1) c, .int .i64 i, .int .i64 ((i : Int) + 1)] w fun e w' => e = .returned (.slice (some ⟨g, 0, none⟩) m c) ∧ w'.ownsRow base 70 3 (.slice (some ⟨g, 0, none⟩) m c) m (flR (l.eraseIdx i)) ∧ w.grownBy w' (some g) := by
  obtain ⟨iT, hi, hz0, hz1, hz2⟩ := info_parts fl_info
  obtain ⟨news, hnews⟩ : ∃ news, news = flR (l.drop (i + 1)) := ⟨_, rfl⟩
  have hnl : news.length = (m - i) * 3 := by rw [hnews, flR_length, List.length_drop]; omega
  have hn1 : ∀ u ∈ news, u.oneCell' = true := by rw [hnews]; exact flR_one _
  have ownT := own_take own (Nat.le_succ_of_le hlt)
  rw [flR_take] at ownT
  have hrd : ∀ j u, (flR l)[j]? = some u → w.cell? ⟨g, j, none⟩ = some u := by
    intro j u hu
    have := rd_hnews (own_rd (A := some ⟨g, 0, none⟩) own) j u hu
    rwa [show (⟨g, 0, none⟩ : Addr).add j = ⟨g, j, none⟩ by unfold Addr.add; split <;> simp_all] at this
  obtain ⟨A, hA, hsrc⟩ : ∃ A : Addr, (if c = i + 1 then some (⟨g, 0, none⟩ : Addr) else some ⟨g, (i + 1) * 3, none⟩) = some A ∧ Hid (∀ t u, news[t]? = some u → w.cell? (A.add t) = some u) := by
    by_cases h : c = i + 1
    · refine ⟨⟨g, 0, none⟩, by simp [h], fun t u hu => ?_⟩
      have h0 : news.length = 0 := by rw [hnl]; omega
      rw [List.length_eq_zero_iff.1 h0] at hu
      simp at hu
    · refine ⟨⟨g, (i + 1) * 3, none⟩, by simp [h], fun t u hu => ?_⟩
      rw [hnews, ← flR_drop, List.getElem?_drop] at hu
      have e1 : (⟨g, (i + 1) * 3, none⟩ : Addr).add t = ⟨g, (i + 1) * 3 + t, none⟩ := by unfold Addr.add; split <;> simp_all
      rw [e1]
      exact hrd _ _ hu
  have hic : i ≤ c := by omega
  have hjc : i + 1 ≤ c := by omega
  have hjd : (0 : Int) ≤ (i : Int) + 1 ∧ (i : Int) + 1 ≤ (m : Int) + 1 := by omega
  go_enter Try.func41, Try.ntmps41
  go_wp2_with fail
  go_region_law (refine step_app_own rfl (.tmp 22) (.tmp 25) 29 rfl base 70 iT 3 Try.underlying29 hi hz1 g i c (flR (l.take i)) (by simp [Act.eval, Act.put]) (by exact ownT) A (m - i) (c - (i + 1)) news (by simp [Act.eval, Act.put]) hnl hsrc.out hn1 (by omega) ?_; intro w1 own1 hg1)
  rw [show i + (m - i) = m by omega] at own1
  have oz := own_clear (size := 3) (c' := c - m) (k := 0) Try.underlying29 hi hz0 rfl (by intro u hu; simp [Value.cells] at hu; rcases hu with rfl | rfl | rfl <;> simp [Value.oneCell']) own1 (by omega)
  obtain ⟨w2, hcl, own2, hg2⟩ := oz
  simp only [Nat.zero_add] at hcl
  have hmc : m ≤ c := by omega
  have hcne : ¬ c = m := by omega
  have hmi : (0 : Int) ≤ (m : Int) ∧ (m : Int) ≤ (m : Int) + 1 := by omega
  go_wp2
  go_ret
  refine ⟨rfl, ?_, Gr.trans (Gr.trans (Gr.drew (Gr.refl w (some g))) hg1) hg2⟩
  rwa [show flR (l.eraseIdx i) = flR (l.take i) ++ news by rw [hnews, ← flR_append, List.eraseIdx_eq_take_drop_succ]]
end Go.Proofs.Yteblbleehnkcmaa
