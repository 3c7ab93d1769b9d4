/- Plain laws of pool: a state that may be, what taking and giving do to it. No program in sight. -/
import Derived.Test.YtnmpighdkdffbaaPool6
namespace Go.Proofs.Ytnmpighdkdffbaa
set_option linter.unusedSimpArgs false
set_option linter.unusedVariables false

structure Ok (l : List Cl) (f : List Int) : Prop where
  n : 0 < l.length ∧ l.length ≤ 64
  gen : ∀ x ∈ l, 0 ≤ x.gen ∧ x.gen ≤ 1048576
  dead : ∀ x ∈ l, x.live = false → x.val = 0
  good : ∀ p ∈ f, 0 ≤ p ∧ p < l.length ∧ pSpare (l.getD p.toNat default) = true
  nodup : f.Nodup
  count : f.length = l.countP pSpare
theorem ok_of {l : List Cl} {f : List Int} (h : pCheck l f = 0) : Ok l f := by
  obtain ⟨h1, h2, h3, h4⟩ := check_ok h
  refine ⟨h1, h2, h3, fun p hp => ?_, ?_, ?_⟩
  · obtain ⟨i, hi, rfl⟩ := List.mem_iff_getElem.1 hp
    obtain ⟨a, b, _⟩ := free_ok h4 hi
    exact ⟨a.1, a.2, b⟩
  · rw [List.Nodup, List.pairwise_iff_getElem]
    intro i j hi hj hij
    exact (free_ok h4 hj).2.2 i hij
  · unfold pFree at h4
    simp only [Bool.and_eq_true, beq_iff_eq] at h4
    omega
theorem Ok.chk {l : List Cl} {f : List Int} (h : Ok l f) : pCheck l f = 0 := by
  obtain ⟨h1, h2, h3, h4, h5, h6⟩ := h
  have a1 : ¬ (l.length = 0 ∨ 64 < l.length) := by omega
  have a2 : ¬ l.any pOdd = true := by
    rw [List.any_eq_true]; rintro ⟨x, hx, ho⟩
    have := h2 x hx
    simp [pOdd] at ho; omega
  have a3 : ¬ l.any pLeft = true := by
    rw [List.any_eq_true]; rintro ⟨x, hx, ho⟩
    simp [pLeft] at ho
    exact ho.2 (h3 x hx ho.1)
  have a4 : ¬ pFree l f = false := by
    have : pFree l f = true := by
      rw [pFree_end]
      · simp only [beq_iff_eq]; omega
      · intro j hj
        obtain ⟨b1, b2, b3⟩ := h4 f[j] (List.getElem_mem hj)
        unfold pGood
        rw [getD_at _ _ hj]
        simp only [Bool.and_eq_true, decide_eq_true_eq, Bool.not_eq_true', List.any_eq_false, beq_iff_eq]
        refine ⟨⟨⟨b1, b2⟩, by simpa [pSpare] using b3⟩, fun x hx e => ?_⟩
        obtain ⟨i, hi, rfl⟩ := List.mem_take_iff_getElem.1 hx
        rw [List.Nodup, List.pairwise_iff_getElem] at h5
        exact h5 i j (by omega) hj (by omega) e.symm
    rw [this]; simp
  unfold pCheck
  rw [if_neg a1, if_neg a2, if_neg a3, if_neg a4]

theorem countP_set1 (p : Cl → Bool) (l : List Cl) (q : Nat) (h : q < l.length) (x : Cl) : (l.set q x).countP p + (if p l[q] = true then 1 else 0) = l.countP p + (if p x = true then 1 else 0) := by
  induction l generalizing q with
  | nil => simp at h
  | cons a l ih =>
    cases q with
    | zero => simp only [List.set_cons_zero, List.countP_cons, List.getElem_cons_zero]; omega
    | succ q =>
      have := ih q (by simpa using h)
      simp only [List.set_cons_succ, List.countP_cons, List.getElem_cons_succ]
      omega
theorem getD_set_other (l : List Cl) (q r : Nat) (x : Cl) (h : r ≠ q) : (l.set q x).getD r default = l.getD r default := by
  simp [List.getD_eq_getElem?_getD, List.getElem?_set, Ne.symm h]
theorem mem_set {l : List Cl} {q : Nat} {x y : Cl} (h : y ∈ l.set q x) : y = x ∨ y ∈ l := by
  rcases List.mem_or_eq_of_mem_set h with h | h
  · exact .inr h
  · exact .inl h
/-- taking the last free place -/
theorem Ok.take {l : List Cl} {f : List Int} {k : Nat} (h : Ok l (f ++ [(k : Int)])) (v : Int) : ∃ hk : k < l.length, l[k].live = false ∧ l[k].gen < 1048576 ∧ 0 ≤ l[k].gen ∧ Ok (l.set k ⟨l[k].gen, true, v⟩) f ∧ pTake l (f ++ [(k : Int)]) v = ((l.set k ⟨l[k].gen, true, v⟩, f), l[k].gen * 64 + k, 0) := by
  have hch := h.chk
  obtain ⟨h1, h2, h3, h4, h5, h6⟩ := h
  obtain ⟨_, b2, b3⟩ := h4 k (by simp)
  have hk : k < l.length := by omega
  rw [Int.toNat_natCast, getD_at _ _ hk] at b3
  have b4 := b3
  simp only [pSpare, Bool.and_eq_true, Bool.not_eq_true', decide_eq_true_eq] at b3
  have hgk := h2 _ (List.getElem_mem hk)
  have hnd := List.nodup_append.1 h5
  refine ⟨hk, b3.1, b3.2, hgk.1, ⟨by rw [List.length_set]; exact h1, fun x hx => ?_, fun x hx hl => ?_, fun p hp => ?_, hnd.1, ?_⟩, ?_⟩
  · rcases mem_set hx with rfl | hx
    · exact hgk
    · exact h2 x hx
  · rcases mem_set hx with rfl | hx
    · cases hl
    · exact h3 x hx hl
  · obtain ⟨c1, c2, c3⟩ := h4 p (by simp [hp])
    rw [List.length_set]
    refine ⟨c1, c2, ?_⟩
    rw [getD_set_other _ _ _ _ (fun e => ?_)]
    · exact c3
    · have : p = (k : Int) := by omega
      subst this
      exact hnd.2.2 _ hp _ (by simp) rfl
  · have := countP_set1 pSpare l k hk ⟨l[k].gen, true, v⟩
    rw [if_pos b4, if_neg (by simp [pSpare])] at this
    rw [List.length_append] at h6
    simp only [List.length_singleton] at h6
    omega
  · unfold pTake
    have e1 : (f ++ [(k : Int)]).length - 1 = f.length := by simp
    rw [if_neg (by simpa using hch), if_neg (by simp), e1]
    have e2 : (f ++ [(k : Int)]).getD f.length 0 = k := by simp [List.getD_eq_getElem?_getD]
    rw [e2, Int.toNat_natCast]
    show ((l.set k ⟨(l.getD k default).gen, true, v⟩, List.take f.length (f ++ [(k : Int)])), (l.getD k default).gen * 64 + (k : Int), (0 : Int)) = _
    rw [getD_at _ _ hk, List.take_left]
theorem pTake_full {l : List Cl} (h : Ok l []) (v : Int) : pTake l [] v = ((l, []), 0, 7) := by
  unfold pTake; rw [if_neg (by simpa using h.chk)]; simp
/-- the place of a live cell by its handle -/
theorem find_at {l : List Cl} {k : Nat} (hk : k < l.length) (h64 : l.length ≤ 64) (hg : 0 ≤ l[k].gen) (hl : l[k].live = true) : pFind l (l[k].gen * 64 + k) = ((k : Int), true) := by
  have e : (l[k].gen * 64 + (k : Int)) % 64 = k := by omega
  unfold pFind
  rw [if_neg (by omega), e, Int.toNat_natCast, getD_at _ _ hk]
  show ((k : Int), (l[k].live && (l[k].gen * 64 + (k : Int) == l[k].gen * 64 + k))) = _
  rw [hl]; simp
theorem find_none {l : List Cl} {h : Int} {k : Nat} (hk : k < l.length) (e : h % 64 = k) (hn : l[k].live = false ∨ l[k].gen * 64 + k ≠ h) : (pFind l h).2 = false := by
  unfold pFind
  split
  · rfl
  · rw [e, Int.toNat_natCast, getD_at _ _ hk]
    rcases hn with hn | hn
    · simp [hn]
    · have : ((l[k].gen * 64 + (k : Int)) == h) = false := by rw [beq_eq_false_iff_ne]; exact hn
      simp only [this, Bool.and_false]
/-- giving a live cell back -/
theorem Ok.give {l : List Cl} {f : List Int} {k : Nat} (h : Ok l f) (hk : k < l.length) (hl : l[k].live = true) (hg : l[k].gen + 1 < 1048576) :
    Ok (l.set k ⟨l[k].gen + 1, false, 0⟩) (f ++ [(k : Int)]) ∧ pChange giveD l f (l[k].gen * 64 + k) = ((l.set k ⟨l[k].gen + 1, false, 0⟩, f ++ [(k : Int)]), 0) := by
  have hch := h.chk
  obtain ⟨h1, h2, h3, h4, h5, h6⟩ := h
  have hgk := h2 _ (List.getElem_mem hk)
  have hsp : pSpare ⟨l[k].gen + 1, false, 0⟩ = true := by simp [pSpare]; omega
  have hns : pSpare l[k] = false := by simp [pSpare, hl]
  have hnk : (k : Int) ∉ f := fun hm => by
    obtain ⟨_, _, c⟩ := h4 _ hm
    rw [Int.toNat_natCast, getD_at _ _ hk, hns] at c; cases c
  refine ⟨⟨by rw [List.length_set]; exact h1, fun x hx => ?_, fun x hx hl => ?_, fun p hp => ?_, ?_, ?_⟩, ?_⟩
  · rcases mem_set hx with rfl | hx
    · simp only; omega
    · exact h2 x hx
  · rcases mem_set hx with rfl | hx
    · rfl
    · exact h3 x hx hl
  · rw [List.length_set]
    rcases List.mem_append.1 hp with hp | hp
    · obtain ⟨c1, c2, c3⟩ := h4 p hp
      refine ⟨c1, c2, ?_⟩
      rw [getD_set_other _ _ _ _ (fun e => hnk (by have : p = (k : Int) := by omega
                                                   rwa [this] at hp))]
      exact c3
    · simp only [List.mem_singleton] at hp
      subst hp
      refine ⟨by omega, by omega, ?_⟩
      rw [Int.toNat_natCast, getD_at _ _ (by rw [List.length_set]; exact hk), List.getElem_set_self]
      exact hsp
  · rw [List.nodup_append]
    refine ⟨h5, by simp, fun a ha b hb => ?_⟩
    simp only [List.mem_singleton] at hb
    subst hb
    rintro rfl
    exact hnk ha
  · have := countP_set1 pSpare l k hk ⟨l[k].gen + 1, false, 0⟩
    rw [if_neg (by rw [hns]; simp), if_pos hsp] at this
    rw [List.length_append, List.length_singleton]
    omega
  · unfold pChange
    rw [if_neg (by simpa using hch), find_at hk h1.2 hgk.1 hl]
    simp only [Bool.true_eq_false, if_false, Int.toNat_natCast]
    unfold giveD backX
    rw [getD_at _ _ hk, if_pos hsp]
theorem give_none {l : List Cl} {f : List Int} {h : Int} (hk : Ok l f) (hn : (pFind l h).2 = false) : pChange giveD l f h = ((l, f), 6) := by
  unfold pChange; rw [if_neg (by simpa using hk.chk), if_pos hn]
theorem get_at {l : List Cl} {f : List Int} {k : Nat} (h : Ok l f) (hk : k < l.length) (hl : l[k].live = true) : pGet l f (l[k].gen * 64 + k) = (l[k].val, true) := by
  have hgk := h.gen _ (List.getElem_mem hk)
  have e := find_at hk h.n.2 hgk.1 hl
  unfold pGet
  rw [if_neg (by rw [e, h.chk]; simp), e]
  simp only [Int.toNat_natCast, getD_at _ _ hk]
theorem get_none {l : List Cl} {f : List Int} {h : Int} (hn : (pFind l h).2 = false) : pGet l f h = (0, false) := by
  unfold pGet; rw [if_pos (.inr hn)]
theorem pHand_count (l : List Cl) (k : Nat) : (pHand l k).length = l.countP (·.live) := by
  induction l generalizing k with
  | nil => rfl
  | cons x l ih =>
    simp only [pHand, List.length_append, ih, List.countP_cons]
    cases x.live <;> simp <;> omega
theorem Ok.used {l : List Cl} {f : List Int} (h : Ok l f) : (pHandles l f).length = l.countP (·.live) := by
  unfold pHandles; rw [if_neg (by simpa using h.chk), pHand_count]
/-- where no cell is worn out, each is free or live -/
theorem Ok.both {l : List Cl} {f : List Int} (h : Ok l f) (hg : ∀ x ∈ l, x.gen < 1048576) : f.length + l.countP (·.live) = l.length := by
  rw [h.count]
  have : ∀ m : List Cl, (∀ x ∈ m, x.gen < 1048576) → m.countP pSpare + m.countP (·.live) = m.length := by
    intro m
    induction m with
    | nil => intro _; rfl
    | cons x m ih =>
      intro hm
      have h1 := ih (fun y hy => hm y (by simp [hy]))
      have h2 := hm x (by simp)
      have h3 : pSpare x = !x.live := by unfold pSpare; rw [decide_eq_true h2, Bool.and_true]
      rw [List.countP_cons, List.countP_cons, List.length_cons, h3]
      cases x.live <;> simp <;> omega
  exact this l hg
theorem mem_downs {n k : Nat} {p : Int} : p ∈ downs n k ↔ ∃ i, i < k ∧ p = (n : Int) - 1 - i := by
  simp [downs, eq_comm]
theorem Ok.new (n : Nat) (h1 : 1 ≤ n) (h : n ≤ 64) : Ok (newL n) (downs n n) := by
  refine ⟨by simp; omega, fun x hx => ?_, fun x hx _ => ?_, fun p hp => ?_, ?_, ?_⟩
  · rw [List.eq_of_mem_replicate hx]; simp
  · rw [List.eq_of_mem_replicate hx]
  · obtain ⟨i, hi, rfl⟩ := mem_downs.1 hp
    refine ⟨by omega, by simp; omega, ?_⟩
    rw [getD_at _ _ (by simp; omega), List.getElem_replicate]
    rfl
  · unfold downs List.Nodup
    rw [List.pairwise_map]
    exact List.Pairwise.imp (fun {a b} h e => by omega) List.pairwise_lt_range
  · rw [downs_len, List.countP_replicate]; simp [pSpare]
end Go.Proofs.Ytnmpighdkdffbaa
