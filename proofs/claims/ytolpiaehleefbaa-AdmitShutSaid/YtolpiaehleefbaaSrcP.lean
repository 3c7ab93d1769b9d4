/- Sources, the plain law: what clean and take leave. No program in sight. -/
import Derived.Test.YtolpiaehleefbaaA1
import Derived.Test.YtolpiaehleefbaaSrc8
namespace Go.Proofs.Ytolpiaehleefbaa
open Go.RowKit
set_option linter.unusedSimpArgs false
set_option linter.unusedVariables false

theorem low_of {l : List En} (ho : eOrd l = true) {x : En} (hx : x ∈ l) : hasB l x.s = true ∧ l.getD (lowB l x.s) ⟨0, 0, 0⟩ = x := by
  obtain ⟨i, hi, he⟩ := List.getElem_of_mem hx
  have hlo : lowB l x.s = i := lowB_is (Nat.le_of_lt hi) (fun j hj hji => by rw [← he]; exact eOrd_lt ho hji hi) (fun h => by rw [he]; exact Int.le_refl _)
  have h2 : lowB l x.s < l.length := by omega
  have h3 := hasB_at h2
  simp only [hlo, he] at h3
  refine ⟨by rw [h3]; simp, ?_⟩
  rw [hlo, List.getD_eq_getElem?_getD, List.getElem?_eq_getElem hi, Option.getD_some, he]
theorem has_mem {l : List En} {s : Int} (h : hasB l s = true) : ∃ x ∈ l, x.s = s := by
  have hlt := hasB_lt h
  have h3 := hasB_at hlt
  rw [h] at h3
  exact ⟨_, List.getElem_mem hlt, by simpa using h3.symm⟩
theorem eOf_mem {b : Int} {l : List En} (ho : eOrd l = true) {x : En} (hx : x ∈ l) (now : Int) : eOf b l x.s now = (x.t, x.a) := by
  obtain ⟨h1, h2⟩ := low_of ho hx
  unfold eOf
  rw [if_pos h1, h2]
theorem eOf_none {b : Int} {l : List En} {s : Int} (h : ∀ x ∈ l, x.s ≠ s) (now : Int) : eOf b l s now = (b, bHeld now 0 1099511627776) := by
  unfold eOf
  rw [if_neg]
  intro hh
  obtain ⟨x, hx, hs⟩ := has_mem hh
  exact h x hx hs
theorem uniq {l : List En} (ho : eOrd l = true) {x y : En} (hx : x ∈ l) (hy : y ∈ l) (h : x.s = y.s) : x = y := by
  have h1 := (low_of ho hx).2
  have h2 := (low_of ho hy).2
  rw [← h1, ← h2, h]
theorem full_level {b r : Int} (hg : bGood b r = true) (N : Int) : bLevel b r b (bHeld N 0 1099511627776) N = b := by
  obtain ⟨⟨hb1, hb2⟩, hr1, hr2⟩ := bGood_t hg
  have hh := bHeld_bd (n := N) (a := 0) (b := 1099511627776) (by omega)
  have hf : bFine b r b (bHeld N 0 1099511627776) = true := bFine_mk hb1 hb2 hr1 hr2 (by omega) (by omega) hh.1 hh.2
  rw [bLevel_f hf]
  have hA := bA_bd (now := N) hh.2
  unfold bT
  have := Int.mul_nonneg (show 0 ≤ bA (bHeld N 0 1099511627776) N - bHeld N 0 1099511627776 by omega) hr1
  omega
theorem bT_mono {b r t a N N' : Int} (hf : bFine b r t a = true) (h : N ≤ N') : bT b r t a N ≤ bT b r t a N' := by
  obtain ⟨⟨_, hr1, _⟩, _, ha⟩ := bFine_t hf
  have e : bA a N ≤ bA a N' := by unfold bA bHeld; omega
  have := Int.mul_le_mul_of_nonneg_right (show bA a N - a ≤ bA a N' - a by omega) hr1
  unfold bT
  omega
theorem eLevel_of {b r : Int} {l : List En} (h : eCheck b r l = 0) {s : Int} (hs : sMay s = true) (N : Int) : eLevel b r l s N = bLevel b r (eOf b l s N).1 (eOf b l s N).2 N := by
  unfold eLevel
  rw [if_neg (by rw [hs]; simp), if_neg (by simp [h])]
theorem eClean_mem {b r : Int} {l : List En} {now : Int} (h : eCheck b r l = 0) {x : En} : x ∈ eClean b r l now ↔ x ∈ l ∧ eFull b r now x = false := by
  unfold eClean
  rw [if_neg (by simp [h]), List.mem_filter]
  simp
/-- full buckets that are taken out change no level, now or later -/
theorem level_clean {b r : Int} {l : List En} (h : eCheck b r l = 0) {s : Int} (hs : sMay s = true) {N N' : Int} (hN : N ≤ N') : eLevel b r (eClean b r l N) s N' = eLevel b r l s N' := by
  obtain ⟨hg, _, hall, ho⟩ := eCheck_ok h
  have h' := eClean_ok N h
  have ho' := (eCheck_ok h').2.2.2
  rw [eLevel_of h' hs, eLevel_of h hs]
  by_cases hx : ∃ x ∈ l, x.s = s
  · obtain ⟨x, hx, rfl⟩ := hx
    cases hf : eFull b r N x with
    | false =>
      rw [eOf_mem ho hx, eOf_mem ho' ((eClean_mem h).2 ⟨hx, hf⟩)]
    | true =>
      rw [eOf_mem ho hx, eOf_none (fun y hy e => ?_), full_level hg]
      · obtain ⟨_, hfx⟩ := hall x hx
        unfold eFull at hf
        rw [bLevel_f hfx] at hf
        have hm := bT_mono hfx hN
        have hb := bT_bd (now := N') hfx
        rw [bLevel_f hfx]
        simp at hf
        omega
      · obtain ⟨hy1, hy2⟩ := (eClean_mem h).1 hy
        have := uniq ho hy1 hx e
        subst this
        rw [hf] at hy2; cases hy2
  · have hx1 : ∀ x ∈ l, x.s ≠ s := fun x hx' e => hx ⟨x, hx', e⟩
    rw [eOf_none hx1, eOf_none (fun x hx' => hx1 x ((eClean_mem h).1 hx').1)]
/-- all are full some ticks later -/
theorem clean_none {b r : Int} {l : List En} (h : eCheck b r l = 0) {N M : Int} (ha : ∀ x ∈ l, x.a ≤ N) (hr : 1 ≤ r) (hM : N + b ≤ M) (hX : M ≤ 1099511627776) : eClean b r l M = [] := by
  rw [List.eq_nil_iff_forall_not_mem]
  intro x hx
  obtain ⟨hx1, hx2⟩ := (eClean_mem h).1 hx
  obtain ⟨hg, _, hall, ho⟩ := eCheck_ok h
  obtain ⟨⟨hb1, hb2⟩, hr1, hr2⟩ := bGood_t hg
  obtain ⟨_, hfx⟩ := hall x hx1
  obtain ⟨_, ⟨ht, _⟩, _⟩ := bFine_t hfx
  have hax := ha x hx1
  unfold eFull at hx2
  rw [bLevel_f hfx, bT_at (by omega) hX] at hx2
  have := Int.mul_le_mul_of_nonneg_left hr (show 0 ≤ M - x.a by omega)
  rw [beq_eq_false_iff_ne] at hx2
  omega
theorem eClean_at {b r : Int} {l : List En} {N M : Int} (ha : ∀ x ∈ l, x.a ≤ N) : ∀ x ∈ eClean b r l M, x.a ≤ N := by
  intro x hx
  unfold eClean at hx
  split at hx
  · exact ha x hx
  · exact ha x (List.mem_filter.1 hx).1
theorem ePut_mem {m : List En} {s : Int} {y : Int × Int} {x : En} (hx : x ∈ ePut m s y) : x = ⟨s, y.1, y.2⟩ ∨ x ∈ m := by
  unfold ePut at hx
  split at hx
  · exact (List.mem_or_eq_of_mem_set hx).symm
  · rw [List.mem_append, List.mem_cons] at hx
    rcases hx with hx | hx | hx
    · exact .inr (List.mem_of_mem_take hx)
    · exact .inl hx
    · exact .inr (List.mem_of_mem_drop hx)
theorem low_gt {m : List En} (ho : eOrd m = true) {s : Int} (hh : hasB m s = false) {i : Nat} (hi : i < m.length) (hl : lowB m s ≤ i) : s < m[i].s := by
  have h1 : lowB m s < m.length := by omega
  have h2 := lowB_at h1
  have h3 := hasB_at h1
  rw [hh] at h3
  have h4 : m[lowB m s].s ≠ s := by intro e; rw [e] at h3; simp at h3
  rcases Nat.lt_or_eq_of_le hl with h5 | h5
  · have := eOrd_lt ho h5 hi; omega
  · have e : m[i].s = m[lowB m s].s := by congr 1; simp [h5]
    omega
theorem ePut_ord {m : List En} (ho : eOrd m = true) (s : Int) (y : Int × Int) : eOrd (ePut m s y) = true := by
  unfold ePut
  split
  · rename_i h
    rw [eOrd_pw, List.pairwise_iff_getElem]
    have hlt := hasB_lt h
    have hs : m[lowB m s].s = s := by have := hasB_at hlt; rw [h] at this; simpa using this.symm
    intro i j hi hj hij
    simp only [List.length_set] at hi hj
    have := eOrd_lt ho hij hj
    have e : ∀ (k : Nat) (hk : k < m.length), ((m.set (lowB m s) ⟨s, y.1, y.2⟩)[k]'(by simpa using hk)).s = m[k].s := fun k hk => by
      rw [List.getElem_set]
      split
      · rename_i hk2; subst hk2; exact hs.symm
      · rfl
    rw [e i hi, e j hj]
    exact this
  · rename_i h
    have hh : hasB m s = false := by simpa using h
    rw [eOrd_pw, List.pairwise_append]
    have hp := (eOrd_pw m).1 ho
    refine ⟨hp.sublist (List.take_sublist _ _), ?_, ?_⟩
    · rw [List.pairwise_cons]
      refine ⟨fun x hx => ?_, hp.sublist (List.drop_sublist _ _)⟩
      obtain ⟨i, hi, rfl⟩ := List.getElem_of_mem hx
      rw [List.getElem_drop]
      exact low_gt ho hh _ (by omega)
    · intro x hx z hz
      rw [List.mem_take_iff_getElem] at hx
      obtain ⟨i, hi, rfl⟩ := hx
      have h1 := lowB_low (l := m) (s := s) (i := i) (by omega) (by omega)
      rw [List.mem_cons] at hz
      rcases hz with rfl | hz
      · exact h1
      · obtain ⟨j, hj, rfl⟩ := List.getElem_of_mem hz
        rw [List.getElem_drop]
        have := low_gt ho hh (i := lowB m s + j) (by rw [List.length_drop] at hj; omega) (by omega)
        omega
theorem ePut_own {m : List En} {s : Int} {y : Int × Int} : (⟨s, y.1, y.2⟩ : En) ∈ ePut m s y := by
  unfold ePut
  split
  · rename_i h
    rw [List.mem_iff_getElem]; exact ⟨lowB m s, by rw [List.length_set]; exact hasB_lt h, by simp⟩
  · simp
theorem ePut_keep {m : List En} (ho : eOrd m = true) {s : Int} {y : Int × Int} {x : En} (hx : x ∈ m) (hne : x.s ≠ s) : x ∈ ePut m s y := by
  obtain ⟨i, hi, rfl⟩ := List.getElem_of_mem hx
  unfold ePut
  split
  · rename_i h
    have hlt := hasB_lt h
    have hs : m[lowB m s].s = s := by have := hasB_at hlt; rw [h] at this; simpa using this.symm
    have hil : lowB m s ≠ i := by intro e; subst e; exact hne hs
    rw [List.mem_iff_getElem]
    exact ⟨i, by rw [List.length_set]; exact hi, by rw [List.getElem_set_ne hil]⟩
  · rw [List.mem_append, List.mem_cons]
    rcases Nat.lt_or_ge i (lowB m s) with h1 | h1
    · left; rw [List.mem_take_iff_getElem]; exact ⟨i, by omega, rfl⟩
    · right; right; rw [List.mem_iff_getElem]; exact ⟨i - lowB m s, by rw [List.length_drop]; omega, by rw [List.getElem_drop]; congr 1; omega⟩
theorem eOf_fine {b r : Int} {m : List En} (h : eCheck b r m = 0) {now : Int} (h0 : 0 ≤ now) (h2 : now ≤ 1099511627776) (ha : ∀ x ∈ m, x.a ≤ now) (s : Int) :
    bFine b r (eOf b m s now).1 (eOf b m s now).2 = true ∧ (eOf b m s now).2 ≤ now := by
  obtain ⟨hg, _, hall, ho⟩ := eCheck_ok h
  obtain ⟨⟨hb1, hb2⟩, hr1, hr2⟩ := bGood_t hg
  by_cases hx : ∃ x ∈ m, x.s = s
  · obtain ⟨x, hx, rfl⟩ := hx
    rw [eOf_mem ho hx]
    exact ⟨(hall x hx).2, ha x hx⟩
  · rw [eOf_none (fun x hx' e => hx ⟨x, hx', e⟩), show bHeld now 0 1099511627776 = now by unfold bHeld; omega]
    exact ⟨bFine_mk hb1 hb2 hr1 hr2 (by omega) (Int.le_refl _) h0 h2, Int.le_refl _⟩
/-- what a token of a source leaves, and tells -/
theorem eTake_law {b r : Int} {l : List En} {s now : Int} (h : eCheck b r l = 0) (hs : sMay s = true) (ha : ∀ x ∈ l, x.a ≤ now) (h0 : 0 ≤ now) (h2 : now ≤ 1099511627776) :
    (eTake b r l s now = (eClean b r l now, 7) ∧ (eClean b r l now).length = 8) ∨
    (eTake b r l s now = (eClean b r l now, 14) ∧ eLevel b r l s now = 0) ∨
    (eTake b r l s now = (ePut (eClean b r l now) s (eLevel b r l s now - 1, now), 0) ∧ 1 ≤ eLevel b r l s now ∧ eLevel b r l s now ≤ b ∧ (hasB (eClean b r l now) s = true ∨ (eClean b r l now).length < 8)) := by
  have e1 : eTake b r l s now = eTake2 b r (eClean b r l now) s now := by unfold eTake; rw [if_neg (by simp [h]), if_neg (by rw [hs]; simp)]
  have hm := eClean_ok now h
  have hlv := level_clean h hs (Int.le_refl now)
  obtain ⟨hf, hat⟩ := eOf_fine hm h0 h2 (eClean_at ha) s
  rw [eLevel_of hm hs, bLevel_f hf] at hlv
  have hm8 := (eCheck_ok hm).2.1
  have hbd := bT_bd (now := now) hf
  rw [← hlv, e1]
  generalize eClean b r l now = m at *
  unfold eTake2
  by_cases h8 : hasB m s = false ∧ m.length = 8
  · left
    rw [if_pos h8]
    exact ⟨rfl, h8.2⟩
  right
  rw [if_neg h8]
  by_cases hT : bT b r (eOf b m s now).1 (eOf b m s now).2 now < 1
  · left
    have : bTake b r (eOf b m s now).1 (eOf b m s now).2 now 1 = (((eOf b m s now).1, (eOf b m s now).2), false) := by unfold bTake; rw [if_pos (.inr (.inr hT))]
    rw [this, if_pos rfl]
    exact ⟨rfl, by omega⟩
  · right
    rw [bTake_yes (by omega) hf (by omega), if_neg (by simp), bA_at hat h2]
    refine ⟨rfl, by omega, hbd.2, ?_⟩
    cases hh : hasB m s
    · right
      rcases Nat.lt_or_eq_of_le hm8 with h9 | h9
      · exact h9
      · exact absurd ⟨hh, h9⟩ h8
    · exact .inl rfl
theorem ePut_ok {b r : Int} {m : List En} (hm : eCheck b r m = 0) {s : Int} (hs : sMay s = true) {t now : Int} (h8 : hasB m s = true ∨ m.length < 8) (hf : bFine b r t now = true) : eCheck b r (ePut m s (t, now)) = 0 := by
  obtain ⟨hg, hl, hall, ho⟩ := eCheck_ok hm
  refine eCheck_of hg ?_ (fun x hx => ?_) (ePut_ord ho s _)
  · unfold ePut
    split
    · rw [List.length_set]; exact hl
    · rename_i hh
      have : m.length < 8 := h8.resolve_left hh
      simp only [List.length_append, List.length_cons, List.length_take, List.length_drop]
      omega
  · rcases ePut_mem hx with rfl | hx
    · exact ⟨hs, hf⟩
    · exact hall x hx
theorem ePut_at {m : List En} {s t N : Int} (ha : ∀ x ∈ m, x.a ≤ N) : ∀ x ∈ ePut m s (t, N), x.a ≤ N := by
  intro x hx
  rcases ePut_mem hx with rfl | hx
  · exact Int.le_refl _
  · exact ha x hx
theorem level_put {b r : Int} {m : List En} (hm : eCheck b r m = 0) {s : Int} (hs : sMay s = true) {t now : Int} (h8 : hasB m s = true ∨ m.length < 8) (hf : bFine b r t now = true) {s' : Int} (hs' : sMay s' = true) (N : Int) :
    eLevel b r (ePut m s (t, now)) s' N = if s' = s then bLevel b r t now N else eLevel b r m s' N := by
  have hp := ePut_ok hm hs h8 hf
  have ho := (eCheck_ok hm).2.2.2
  have hpo := (eCheck_ok hp).2.2.2
  rw [eLevel_of hp hs', eLevel_of hm hs']
  by_cases e : s' = s
  · subst e
    rw [if_pos rfl]
    have := eOf_mem (b := b) hpo (ePut_own (m := m) (s := s') (y := (t, now))) N
    dsimp only at this
    rw [this]
  · rw [if_neg e]
    by_cases hx : ∃ x ∈ m, x.s = s'
    · obtain ⟨x, hx, rfl⟩ := hx
      rw [eOf_mem ho hx, eOf_mem hpo (ePut_keep ho hx e)]
    · have hx1 : ∀ x ∈ m, x.s ≠ s' := fun x hx' e => hx ⟨x, hx', e⟩
      rw [eOf_none hx1, eOf_none]
      intro x hx'
      rcases ePut_mem hx' with rfl | hx'
      · exact fun h => e h.symm
      · exact hx1 x hx'
end Go.Proofs.Ytolpiaehleefbaa
