/- Lists by links: where each place stands (the plain copy of ChainKeeps). No program in sight. -/
import Derived.Test.YthicpjfdljgfpaaCi
namespace Go.Proofs.Ythicpjfdljgfpaa
set_option linter.unusedSimpArgs false
set_option linter.unusedVariables false

def wOf (n : Nat) (L : List (List Nat)) : List Int := (laid n L).ns.map (fun x => x.l + 1)
theorem wOf_len (n : Nat) (L : List (List Nat)) : (wOf n L).length = n := by simp [wOf, laid]
theorem nth_mem {L : List (List Nat)} {k a : Nat} (h : a ∈ nth L k) : ∃ hk : k < L.length, a ∈ L[k] := by
  by_cases hk : k < L.length
  · exact ⟨hk, by rwa [nth_at hk] at h⟩
  · unfold nth at h
    rw [List.getD_eq_getElem?_getD, List.getElem?_eq_none (by omega)] at h; cases h
theorem wOf_in {n : Nat} {L : List (List Nat)} (hv : Vl n L) {k a : Nat} (h : a ∈ nth L k) : (wOf n L)[a]? = some ((k : Int) + 1) := by
  obtain ⟨hk, h⟩ := nth_mem h
  unfold wOf
  rw [List.getElem?_map, nd_in hv hk h]; rfl
theorem wOf_out {n : Nat} {L : List (List Nat)} {a : Nat} (ha : a < n) (h : ∀ k, a ∉ nth L k) : (wOf n L)[a]? = some 0 := by
  have hf : a ∉ L.flatten := fun h' => by
    obtain ⟨m, hm, hp⟩ := List.mem_flatten.1 h'
    obtain ⟨k, hk, rfl⟩ := List.getElem_of_mem hm
    exact h k (by rw [nth_at hk]; exact hp)
  unfold wOf
  rw [List.getElem?_map, nd_out ha hf]; rfl
theorem flat_nth {L : List (List Nat)} {a : Nat} : a ∈ L.flatten ↔ ∃ k, a ∈ nth L k := by
  constructor
  · intro h
    obtain ⟨m, hm, hp⟩ := List.mem_flatten.1 h
    obtain ⟨k, hk, rfl⟩ := List.getElem_of_mem hm
    exact ⟨k, by rw [nth_at hk]; exact hp⟩
  · rintro ⟨k, h⟩
    obtain ⟨hk, h⟩ := nth_mem h
    exact List.mem_flatten.2 ⟨_, List.getElem_mem hk, h⟩
/-- two states of lists, place by place -/
theorem wOf_ext {n : Nat} {L : List (List Nat)} {W : List Int} (hv : Vl n L) (hW : W.length = n) (h1 : ∀ a k, a < n → a ∈ nth L k → W[a]? = some ((k : Int) + 1)) (h2 : ∀ a, a < n → (∀ k, a ∉ nth L k) → W[a]? = some 0) : wOf n L = W := by
  apply List.ext_getElem?
  intro a
  by_cases ha : a < n
  · by_cases h : ∃ k, a ∈ nth L k
    · obtain ⟨k, h⟩ := h
      rw [wOf_in hv h, h1 a k ha h]
    · have h' : ∀ k, a ∉ nth L k := fun k hk => h ⟨k, hk⟩
      rw [wOf_out ha h', h2 a ha h']
  · rw [List.getElem?_eq_none (by rw [wOf_len]; omega), List.getElem?_eq_none (by omega)]
theorem wOf_push {n : Nat} {L : List (List Nat)} (hv : Vl n L) {i x : Nat} (hi : i < L.length) (hx : x < n) (hn : x ∉ L.flatten) (hv' : Vl n (L.set i (L[i] ++ [x]))) : wOf n (L.set i (L[i] ++ [x])) = (wOf n L).set x ((i : Int) + 1) := by
  refine wOf_ext hv' (by simp [wOf_len]) ?_ ?_
  · intro a k ha h
    rw [nth_set hi] at h
    by_cases hax : x = a
    · subst hax
      rw [List.getElem?_set_self (by rw [wOf_len]; exact hx)]
      by_cases hik : i = k
      · rw [hik]
      · rw [if_neg hik] at h
        exact absurd (flat_nth.2 ⟨k, h⟩) hn
    · rw [List.getElem?_set_ne hax]
      refine wOf_in hv ?_
      by_cases hik : i = k
      · rw [if_pos hik] at h
        rcases List.mem_append.1 h with h | h
        · rw [← hik, nth_at hi]; exact h
        · simp at h; exact absurd h.symm hax
      · rw [if_neg hik] at h; exact h
  · intro a ha h
    have hax : x ≠ a := fun e => by
      have := h i
      rw [nth_set hi, if_pos rfl] at this
      exact this (by rw [← e]; simp)
    rw [List.getElem?_set_ne hax]
    refine wOf_out ha (fun k hk => ?_)
    have := h k
    rw [nth_set hi] at this
    by_cases hik : i = k
    · rw [if_pos hik] at this
      exact this (List.mem_append_left _ (by rw [← hik, nth_at hi] at hk; exact hk))
    · rw [if_neg hik] at this; exact this hk
theorem wOf_cut {n : Nat} {L : List (List Nat)} (hv : Vl n L) {i x : Nat} (hi : i < L.length) (hx : x < n) (hm : x ∈ L[i]) (hv' : Vl n (L.set i (L[i].filter (fun y => y != x)))) : wOf n (L.set i (L[i].filter (fun y => y != x))) = (wOf n L).set x 0 := by
  have hone : ∀ k, x ∈ nth L k → k = i := fun k h => by
    obtain ⟨hk, h⟩ := nth_mem h
    exact vl_in hv hk hi h hm
  refine wOf_ext hv' (by simp [wOf_len]) ?_ ?_
  · intro a k ha h
    rw [nth_set hi] at h
    have hax : x ≠ a := fun e => by
      by_cases hik : i = k
      · rw [if_pos hik] at h
        have := (List.mem_filter.1 h).2
        simp [e] at this
      · rw [if_neg hik] at h
        exact hik (hone k (by rw [e]; exact h)).symm
    rw [List.getElem?_set_ne hax]
    refine wOf_in hv ?_
    by_cases hik : i = k
    · rw [if_pos hik] at h
      rw [← hik, nth_at hi]; exact (List.mem_filter.1 h).1
    · rw [if_neg hik] at h; exact h
  · intro a ha h
    by_cases hax : x = a
    · subst hax
      rw [List.getElem?_set_self (by rw [wOf_len]; exact hx)]
    · rw [List.getElem?_set_ne hax]
      refine wOf_out ha (fun k hk => ?_)
      have := h k
      rw [nth_set hi] at this
      by_cases hik : i = k
      · rw [if_pos hik] at this
        refine this (List.mem_filter.2 ⟨by rw [← hik, nth_at hi] at hk; exact hk, by simpa using Ne.symm hax⟩)
      · rw [if_neg hik] at this; exact this hk
theorem wOf_same {n : Nat} {L L' : List (List Nat)} (hv : Vl n L) (hv' : Vl n L') (h : ∀ a k, a ∈ nth L' k ↔ a ∈ nth L k) : wOf n L' = wOf n L :=
  wOf_ext hv' (wOf_len _ _) (fun a k ha hk => wOf_in hv ((h a k).1 hk)) (fun a ha hk => wOf_out ha (fun k hk' => hk k ((h a k).2 hk')))
theorem mem_turn (l : List Nat) (a : Nat) : a ∈ l.tail ++ l.take 1 ↔ a ∈ l := by
  cases l with
  | nil => simp
  | cons x r => simp; constructor <;> (rintro (h | h) <;> simp [h])
theorem wOf_turn {n : Nat} {L : List (List Nat)} (hv : Vl n L) {i : Nat} (hi : i < L.length) (hv' : Vl n (L.set i (L[i].tail ++ L[i].take 1))) : wOf n (L.set i (L[i].tail ++ L[i].take 1)) = wOf n L := by
  refine wOf_same hv hv' (fun a k => ?_)
  rw [nth_set hi]
  by_cases hik : i = k
  · rw [if_pos hik, mem_turn, ← hik, nth_at hi]
  · rw [if_neg hik]
theorem wOf_splice {n : Nat} {L : List (List Nat)} (hv : Vl n L) {i j : Nat} (hi : i < L.length) (hj : j < L.length) (hij : i ≠ j) (hv' : Vl n ((L.set j (L[j] ++ L[i])).set i [])) :
    wOf n ((L.set j (L[j] ++ L[i])).set i []) = (wOf n L).map (fun x => if x = (i : Int) + 1 then (j : Int) + 1 else x) := by
  have hn : ∀ k, nth ((L.set j (L[j] ++ L[i])).set i []) k = if i = k then [] else if j = k then L[j] ++ L[i] else nth L k := fun k => by
    rw [nth_set (by simpa using hi), nth_set hj]
  refine wOf_ext hv' (by simp [wOf_len]) ?_ ?_
  · intro a k ha h
    rw [hn] at h
    rw [List.getElem?_map]
    by_cases hik : i = k
    · rw [if_pos hik] at h; cases h
    · rw [if_neg hik] at h
      by_cases hjk : j = k
      · rw [if_pos hjk] at h
        rcases List.mem_append.1 h with h | h
        · rw [wOf_in hv (k := j) (by rw [nth_at hj]; exact h)]
          simp only [Option.map_some]
          rw [if_neg (by omega), hjk]
        · rw [wOf_in hv (k := i) (by rw [nth_at hi]; exact h)]
          simp [hjk]
      · rw [if_neg hjk] at h
        rw [wOf_in hv h]
        simp only [Option.map_some]
        rw [if_neg (by omega)]
  · intro a ha h
    rw [List.getElem?_map, wOf_out ha]
    · simp only [Option.map_some]
      rw [if_neg (by omega)]
    · intro k hk
      by_cases hik : i = k
      · have := h j
        rw [hn, if_neg hij, if_pos rfl] at this
        exact this (List.mem_append_right _ (by rw [← hik, nth_at hi] at hk; exact hk))
      · have := h k
        rw [hn, if_neg hik] at this
        by_cases hjk : j = k
        · rw [if_pos hjk] at this
          exact this (List.mem_append_left _ (by rw [← hjk, nth_at hj] at hk; exact hk))
        · rw [if_neg hjk] at this; exact this hk
theorem map_same {W : List Int} {v : Int} : W.map (fun x => if x = v then v else x) = W := by
  conv => rhs; rw [← List.map_id W]
  apply List.map_congr_left
  intro x hx
  by_cases h : x = v <;> simp [h]
/-- how many of the places stand in list k -/
theorem wOf_many {n : Nat} {L : List (List Nat)} (hv : Vl n L) {k : Nat} (hk : k < L.length) : ((wOf n L).filter (fun x => x == (k : Int) + 1)).length = L[k].length := by
  have h := laid_many (hv.split hk)
  rw [← at_split hk, take_len hk] at h
  rw [← h]
  unfold wOf cMany
  rw [List.filter_map, List.length_map]
  congr 1
  apply List.filter_congr
  intro x hx
  show (x.l + 1 == (k : Int) + 1) = (x.l == (k : Int))
  by_cases h : x.l = (k : Int)
  · have h2 : x.l + 1 = (k : Int) + 1 := by omega
    rw [beq_iff_eq.2 h, beq_iff_eq.2 h2]
  · have h2 : ¬ x.l + 1 = (k : Int) + 1 := by omega
    rw [beq_eq_false_iff_ne.2 h, beq_eq_false_iff_ne.2 h2]
end Go.Proofs.Ythicpjfdljgfpaa
