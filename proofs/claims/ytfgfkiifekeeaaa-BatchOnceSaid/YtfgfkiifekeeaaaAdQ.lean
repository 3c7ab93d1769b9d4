/- Plain law of package addr. No program in sight. -/
import Derived.Test.YtfgfkiifekeeaaaAd4
namespace Go.Proofs.Ytfgfkiifekeeaaa
open Go.RowKit Go.Shelf
set_option linter.unusedSimpArgs false
set_option linter.unusedVariables false

/-! The reference's own words. -/
def rBad (b : UInt8) : Bool := bad3 b || decide (65 ≤ b.toNat ∧ b.toNat ≤ 90)
theorem uLow_same (b : UInt8) : uLow b = b ↔ ¬ (65 ≤ b.toNat ∧ b.toNat ≤ 90) := by
  unfold uLow
  by_cases h : 65 ≤ b.toNat ∧ b.toNat ≤ 90
  · rw [if_pos h]
    refine ⟨fun e => ?_, fun e => absurd h e⟩
    have := congrArg UInt8.toNat e
    rw [u8_of _ (by omega)] at this
    omega
  · rw [if_neg h]; exact ⟨fun _ => h, fun _ => rfl⟩
theorem map_low_same (s : List UInt8) : s.map uLow = s ↔ ∀ b ∈ s, uLow b = b := by
  induction s with
  | nil => simp
  | cons b s ih => simp [ih]
theorem aName_eq (s : List UInt8) : aName s = (s.all (fun b => !rBad b) && uPlain s) := by
  unfold aName
  have h : (s.all fun b => !rBad b) = (!s.any bad3 && decide (s.map uLow = s)) := by
    rw [Bool.eq_iff_iff]
    simp only [List.all_eq_true, Bool.and_eq_true, Bool.not_eq_true', decide_eq_true_eq, map_low_same, List.any_eq_false, rBad, Bool.or_eq_false_iff, uLow_same, decide_eq_false_iff_not]
    exact ⟨fun h => ⟨fun b hb => by have := (h b hb).1; simp [this], fun b hb => (h b hb).2⟩, fun h b hb => ⟨by have := h.1 b hb; simpa using this, h.2 b hb⟩⟩
  rw [h]
  cases uPlain s <;> cases s.any bad3 <;> cases decide (s.map uLow = s) <;> rfl
def rHB (l : List UInt8) (j : Nat) : Bool :=
  (!aLet (l.getD j 0) && ((decide (j = 0) || decide (j + 1 = l.length)) || (decide ((l.getD j 0).toNat ≠ 45) && decide ((l.getD j 0).toNat ≠ 46)))) ||
    (decide (0 < j) && decide ((l.getD j 0).toNat = 46) && decide ((l.getD (j - 1) 0).toNat = 46))
def rHost (l : List UInt8) : Bool := decide (∀ j, j < l.length → rHB l j = false)
theorem occ_dots (l : List UInt8) (j : Nat) : Lib.occAt l [46, 46] j = true ↔ j + 1 < l.length ∧ l.getD j 0 = 46 ∧ l.getD (j + 1) 0 = 46 := by
  unfold Lib.occAt
  have h1 : l.getD j 0 = (l.drop j).getD 0 0 := by simp
  have h2 : l.getD (j + 1) 0 = (l.drop j).getD 1 0 := by simp
  have h3 : (l.drop j).length = l.length - j := List.length_drop
  rw [h1, h2]
  rcases hd : l.drop j with _ | ⟨a, _ | ⟨b, t⟩⟩
  · rw [hd] at h3; simp at h3 ⊢
  · rw [hd] at h3; simp at h3 ⊢
  · rw [hd] at h3; simp at h3 ⊢
    exact ⟨fun h => ⟨by omega, h.1.symm, h.2.symm⟩, fun h => ⟨h.2.1.symm, h.2.2.symm⟩⟩
theorem contains_dots (l : List UInt8) : Lib.contains l [46, 46] = true ↔ ∃ j, j + 1 < l.length ∧ l.getD j 0 = 46 ∧ l.getD (j + 1) 0 = 46 := by
  unfold Lib.contains
  rw [decide_eq_true_eq]
  rcases Lib.index_spec l [46, 46] with ⟨h, hn⟩ | ⟨i, h, hi, ho, _⟩
  · rw [h]
    refine ⟨fun h => absurd h (by omega), fun ⟨j, hj⟩ => ?_⟩
    have := hn j (by omega)
    rw [(occ_dots l j).2 hj] at this
    cases this
  · rw [h]
    exact ⟨fun _ => ⟨i, (occ_dots l i).1 ho⟩, fun _ => by omega⟩
theorem u8_46 (b : UInt8) : b = 46 ↔ b.toNat = 46 := ⟨fun h => by rw [h]; rfl, fun h => u8_ext _ _ h⟩
theorem head_getD (l : List UInt8) : l.headD 0 = l.getD 0 0 := by cases l <;> rfl
theorem last_getD (l : List UInt8) (h : l ≠ []) : l.getLastD 0 = l.getD (l.length - 1) 0 := by
  rw [List.getLastD_eq_getLast?, List.getLast?_eq_getElem?, List.getD_eq_getElem?_getD]
theorem aHost_iff (l : List UInt8) : aHost l = true ↔ l ≠ [] ∧ aLet (l.getD 0 0) = true ∧ aLet (l.getD (l.length - 1) 0) = true ∧ (∀ j, j + 1 < l.length → l.getD j 0 = 46 → l.getD (j + 1) 0 ≠ 46) ∧ ∀ b ∈ l, aHostB b = true := by
  unfold aHost
  rcases l with _ | ⟨a, t⟩
  · simp
  · have hc : Lib.contains (a :: t) [46, 46] = false ↔ (∀ j, j + 1 < (a :: t).length → (a :: t).getD j 0 = 46 → (a :: t).getD (j + 1) 0 ≠ 46) := by
      rw [← Bool.not_eq_true, contains_dots]
      exact ⟨fun h j hj h1 h2 => h ⟨j, hj, h1, h2⟩, fun h ⟨j, hj, h1, h2⟩ => h j hj h1 h2⟩
    rw [last_getD _ (by simp), head_getD]
    rw [← hc]
    simp only [Bool.and_eq_true, Bool.not_eq_true', List.all_eq_true, List.isEmpty_cons, true_and, ne_eq, reduceCtorEq, not_false_eq_true]
    exact ⟨fun h => ⟨h.1.1.1, h.1.1.2, h.1.2, h.2⟩, fun h => ⟨⟨⟨h.1, h.2.1⟩, h.2.2.1⟩, h.2.2.2⟩⟩
theorem aHostB_iff (b : UInt8) : aHostB b = true ↔ aLet b = true ∨ b.toNat = 46 ∨ b.toNat = 45 := by
  unfold aHostB
  simp [or_assoc]
theorem rHost_eq (l : List UInt8) (hne : l ≠ []) : rHost l = aHost l := by
  rw [Bool.eq_iff_iff, aHost_iff]
  unfold rHost
  rw [decide_eq_true_eq]
  have hl : 0 < l.length := List.length_pos_iff.2 hne
  have key : ∀ j, rHB l j = false ↔ (aLet (l.getD j 0) = true ∨ (j ≠ 0 ∧ j + 1 ≠ l.length ∧ ((l.getD j 0).toNat = 45 ∨ (l.getD j 0).toNat = 46))) ∧ ¬ (0 < j ∧ (l.getD j 0).toNat = 46 ∧ (l.getD (j - 1) 0).toNat = 46) := by
    intro j
    unfold rHB
    rw [Bool.or_eq_false_iff]
    cases aLet (l.getD j 0) <;> simp <;> omega
  have mem : ∀ b, b ∈ l ↔ ∃ j, j < l.length ∧ l.getD j 0 = b := by
    intro b
    rw [List.mem_iff_getElem]
    have g : ∀ j (hj : j < l.length), l.getD j 0 = l[j] := fun j hj => by rw [List.getD_eq_getElem?_getD, List.getElem?_eq_getElem hj]; rfl
    exact ⟨fun ⟨j, hj, e⟩ => ⟨j, hj, by rw [g j hj]; exact e⟩, fun ⟨j, hj, e⟩ => ⟨j, hj, by rw [← e, g j hj]⟩⟩
  constructor
  · intro h
    refine ⟨hne, ?_, ?_, ?_, ?_⟩
    · rcases ((key 0).1 (h 0 hl)).1 with h | h
      · exact h
      · exact absurd rfl h.1
    · rcases ((key _).1 (h (l.length - 1) (by omega))).1 with h | h
      · exact h
      · omega
    · intro j hj h1 h2
      have := ((key _).1 (h (j + 1) hj)).2
      rw [u8_46] at h1 h2
      exact this ⟨by omega, h2, h1⟩
    · intro b hb
      obtain ⟨j, hj, rfl⟩ := (mem b).1 hb
      rw [aHostB_iff]
      rcases ((key j).1 (h j hj)).1 with h | h
      · exact .inl h
      · omega
  · rintro ⟨_, h0, hlst, hd, ha⟩ j hj
    rw [key]
    refine ⟨?_, ?_⟩
    · have hb := ha (l.getD j 0) ((mem _).2 ⟨j, hj, rfl⟩)
      rw [aHostB_iff] at hb
      rcases hb with hb | hb
      · exact .inl hb
      · by_cases j0 : j = 0
        · subst j0; exact .inl h0
        · by_cases jl : j + 1 = l.length
          · left
            rw [show j = l.length - 1 by omega]
            exact hlst
          · exact .inr ⟨j0, jl, by omega⟩
    · rintro ⟨hp, h1, h2⟩
      have := hd (j - 1) (by omega)
      rw [u8_46, show j - 1 + 1 = j by omega, ne_eq, u8_46] at this
      exact this h2 h1
def rFind (l : List UInt8) (c : UInt8) : Nat := match l with | [] => 0 | b :: t => if b = c then 0 else rFind t c + 1
theorem rFind_le (l : List UInt8) (c : UInt8) : rFind l c ≤ l.length := by
  induction l with
  | nil => simp [rFind]
  | cons b t ih => unfold rFind; split <;> simp <;> omega
theorem rFind_index (l : List UInt8) (c : UInt8) : Lib.index l [c] = if rFind l c = l.length then -1 else (rFind l c : Int) := by
  induction l with
  | nil => rfl
  | cons b t ih =>
    unfold Lib.index rFind
    have := rFind_le t c
    by_cases h : b = c
    · subst h
      simp
    · have h1 : [c].isPrefixOf (b :: t) = false := by
        have hs : (c == b) = false := by rw [beq_eq_false_iff_ne]; exact fun e => h e.symm
        simp [List.isPrefixOf, hs]
      rw [h1, ih]
      simp only [if_neg h, Bool.false_eq_true, if_false, List.length_cons, Nat.add_right_cancel_iff]
      by_cases h2 : rFind t c = t.length
      · simp [h2]
      · rw [if_neg h2, if_neg h2, if_neg (by rw [beq_iff_eq]; omega)]
        rfl
theorem cut_find (l : List UInt8) (c : UInt8) : Lib.cut l [c] = (l.take (rFind l c), l.drop (rFind l c + 1), decide (rFind l c < l.length)) := by
  have hle := rFind_le l c
  unfold Lib.cut
  rw [rFind_index]
  by_cases h : rFind l c = l.length
  · rw [if_pos h, if_neg (by omega), h]
    simp
  · rw [if_neg h, if_pos (by omega), decide_eq_true (by omega : rFind l c < l.length)]
    simp
theorem rFind_append (a t : List UInt8) (c : UInt8) (h : c ∉ a) : rFind (a ++ c :: t) c = a.length := by
  induction a with
  | nil => simp [rFind]
  | cons b a ih =>
    simp only [List.mem_cons, not_or] at h
    rw [List.cons_append, rFind, if_neg (fun e => h.1 e.symm), ih h.2]
    rfl
theorem rFind_none (a : List UInt8) (c : UInt8) (h : c ∉ a) : rFind a c = a.length := by
  induction a with
  | nil => rfl
  | cons b a ih =>
    simp only [List.mem_cons, not_or] at h
    rw [rFind, if_neg (fun e => h.1 e.symm), ih h.2]
    rfl
theorem cut_at (a t : List UInt8) (c : UInt8) (h : c ∉ a) : Lib.cut (a ++ c :: t) [c] = (a, t, true) := by
  rw [cut_find, rFind_append a t c h]
  simp
theorem cut_none (a : List UInt8) (c : UInt8) (h : c ∉ a) : Lib.cut a [c] = (a, [], false) := by
  rw [cut_find, rFind_none a c h]
  simp
/-! What may be. -/
theorem aCheck_ok (n h r : List UInt8) : aCheck n h r = 0 ↔ (n.length ≤ 16 ∧ h.length ≤ 16 ∧ r.length ≤ 12) ∧ (n ≠ [] ∧ h ≠ []) ∧ aName n = true ∧ aHost h = true ∧ uPlain r = true := by
  unfold aCheck
  by_cases h1 : 16 < n.length ∨ 16 < h.length ∨ 12 < r.length
  · rw [if_pos h1]
    exact ⟨fun h => absurd h (by decide), fun h => by omega⟩
  rw [if_neg h1]
  by_cases h2 : n = [] ∨ h = []
  · rw [if_pos h2]
    exact ⟨fun h => absurd h (by decide), fun h => by rcases h2 with e | e <;> simp [e] at h⟩
  rw [if_neg h2]
  rw [not_or] at h2
  by_cases h3 : (aName n && aHost h && uPlain r) = true
  · rw [if_pos h3]
    simp only [Bool.and_eq_true] at h3
    exact ⟨fun _ => ⟨by omega, h2, h3.1.1, h3.1.2, h3.2⟩, fun _ => rfl⟩
  · rw [if_neg h3]
    refine ⟨fun h => absurd h (by decide), fun h => absurd ?_ h3⟩
    rw [h.2.2.1, h.2.2.2.1, h.2.2.2.2]; rfl
theorem aRes_ok (r : List UInt8) : aRes r = 0 ↔ r.length ≤ 12 ∧ uPlain r = true := by
  unfold aRes
  by_cases h1 : 12 < r.length
  · rw [if_pos h1]
    exact ⟨fun h => absurd h (by decide), fun h => by omega⟩
  rw [if_neg h1]
  by_cases h2 : uPlain r = true
  · rw [if_pos h2]; exact ⟨fun _ => ⟨by omega, h2⟩, fun _ => rfl⟩
  · rw [if_neg h2]; exact ⟨fun h => absurd h (by decide), fun h => absurd h.2 h2⟩
theorem aCheck_res (n h r q : List UInt8) (h1 : aCheck n h r = 0) (h2 : aRes q = 0) : aCheck n h q = 0 := by
  rw [aCheck_ok] at h1 ⊢
  rw [aRes_ok] at h2
  exact ⟨⟨h1.1.1, h1.1.2.1, h2.1⟩, h1.2.1, h1.2.2.1, h1.2.2.2.1, h2.2⟩
theorem aRes_nil : aRes [] = 0 := by rw [aRes_ok]; exact ⟨by simp, uPlain_nil⟩
theorem aCheck_aRes (n h r : List UInt8) (h1 : aCheck n h r = 0) : aRes r = 0 := by
  rw [aCheck_ok] at h1
  rw [aRes_ok]
  exact ⟨h1.1.2.2, h1.2.2.2.2⟩
/-- what Parse tells may be, or is nothing -/
theorem aParse_ok (s : List UInt8) : ((aParse s).2 = 0 ∧ aCheck (aParse s).1.1 (aParse s).1.2.1 (aParse s).1.2.2 = 0) ∨ ((aParse s).2 ≠ 0 ∧ (aParse s).1 = ([], [], [])) := by
  unfold aParse
  split
  · exact .inr ⟨by decide, rfl⟩
  split
  · rename_i h; exact .inr ⟨h, rfl⟩
  · rename_i h; exact .inl ⟨rfl, Classical.not_not.1 h⟩
theorem name_free (n : List UInt8) (h : aName n = true) : (64 : UInt8) ∉ n ∧ (47 : UInt8) ∉ n ∧ n.map uLow = n := by
  unfold aName at h
  simp only [Bool.and_eq_true, Bool.not_eq_true', List.any_eq_false, decide_eq_true_eq] at h
  exact ⟨fun m => h.1.2 64 m (by decide), fun m => h.1.2 47 m (by decide), h.2⟩
theorem hostB_low (b : UInt8) (h : aHostB b = true) : uLow b = b ∧ b ≠ 64 ∧ b ≠ 47 := by
  rw [aHostB_iff] at h
  unfold aLet at h
  rw [decide_eq_true_eq] at h
  refine ⟨(uLow_same b).2 (by omega), ?_, ?_⟩
  · rintro rfl
    have : (64 : UInt8).toNat = 64 := rfl
    omega
  · rintro rfl
    have : (47 : UInt8).toNat = 47 := rfl
    omega
theorem host_free (h : List UInt8) (hh : aHost h = true) : (64 : UInt8) ∉ h ∧ (47 : UInt8) ∉ h ∧ h.map uLow = h := by
  have := ((aHost_iff h).1 hh).2.2.2.2
  exact ⟨fun m => (hostB_low _ (this _ m)).2.1 rfl, fun m => (hostB_low _ (this _ m)).2.2 rfl, (map_low_same h).2 fun b hb => (hostB_low b (this b hb)).1⟩
/-- what is printed is parsed as it was -/
theorem parse_text (n h r : List UInt8) (hc : aCheck n h r = 0) : aParse (aText (n, h, r)) = ((n, h, r), 0) := by
  obtain ⟨_, _, hn, hh, _⟩ := (aCheck_ok n h r).1 hc
  obtain ⟨n1, n2, n3⟩ := name_free n hn
  obtain ⟨h1, h2, h3⟩ := host_free h hh
  have hfree : (47 : UInt8) ∉ n ++ 64 :: h := by simp [n2, h2]
  have hlow : (n ++ 64 :: h).map uLow = n ++ 64 :: h := by
    rw [List.map_append, List.map_cons, n3, h3]; rfl
  have hcut : Lib.cut (aText (n, h, r)) [47] = (n ++ 64 :: h, r, decide (r ≠ [])) := by
    unfold aText
    dsimp only
    by_cases e : r = []
    · subst e
      rw [if_pos rfl, List.append_nil, cut_none _ _ hfree]; rfl
    · rw [if_neg e, cut_at _ _ _ hfree, decide_eq_true e]
  unfold aParse
  rw [hcut]
  dsimp only
  rw [hlow, cut_at n h 64 n1]
  dsimp only
  rw [if_neg (by rintro (h | ⟨h, e⟩) <;> simp_all), if_neg (by rw [hc]; simp)]
/-! Which comes first. -/
theorem less_irr (a : List UInt8) : Op.bytesLess a a = false := by
  induction a with
  | nil => rfl
  | cons a l ih => unfold Op.bytesLess; simp [ih]
theorem less_asym : ∀ (a b : List UInt8), Op.bytesLess a b = true → Op.bytesLess b a = false
  | [], [], _ => rfl
  | [], b :: y, _ => rfl
  | a :: x, [], h => by cases h
  | a :: x, b :: y, h => by
    unfold Op.bytesLess at h ⊢
    simp only [Bool.or_eq_true, decide_eq_true_eq, Bool.and_eq_true, beq_iff_eq, UInt8.lt_iff_toNat_lt] at h
    rcases h with h | ⟨rfl, h⟩
    · have h1 : ¬ b < a := by rw [UInt8.lt_iff_toNat_lt]; omega
      have h2 : (b == a) = false := by rw [beq_eq_false_iff_ne]; rintro rfl; omega
      rw [decide_eq_false h1, h2]; rfl
    · have := less_asym x y h
      have h1 : ¬ a < a := by rw [UInt8.lt_iff_toNat_lt]; omega
      rw [decide_eq_false h1, this]; simp
theorem less_tot : ∀ (a b : List UInt8), a ≠ b → Op.bytesLess a b = true ∨ Op.bytesLess b a = true
  | [], [], h => absurd rfl h
  | [], b :: y, _ => .inl rfl
  | a :: x, [], _ => .inr rfl
  | a :: x, b :: y, h => by
    unfold Op.bytesLess
    simp only [Bool.or_eq_true, decide_eq_true_eq, Bool.and_eq_true, beq_iff_eq, UInt8.lt_iff_toNat_lt]
    by_cases e : a = b
    · subst e
      rcases less_tot x y (fun e => h (by rw [e])) with h | h
      · exact .inl (.inr ⟨rfl, h⟩)
      · exact .inr (.inr ⟨rfl, h⟩)
    · have : a.toNat ≠ b.toNat := fun h => e (u8_ext _ _ h)
      rcases Nat.lt_or_ge a.toNat b.toNat with h | h
      · exact .inl (.inl h)
      · exact .inr (.inl (by omega))
theorem less_trans : ∀ (a b c : List UInt8), Op.bytesLess a b = true → Op.bytesLess b c = true → Op.bytesLess a c = true
  | [], [], _, h, _ => by cases h
  | a :: x, [], _, h, _ => by cases h
  | _, _ :: _, [], _, h => by cases h
  | [], b :: y, c :: z, _, _ => rfl
  | a :: x, b :: y, c :: z, h, k => by
    unfold Op.bytesLess at h k ⊢
    simp only [Bool.or_eq_true, decide_eq_true_eq, Bool.and_eq_true, beq_iff_eq, UInt8.lt_iff_toNat_lt] at h k ⊢
    rcases h with h | ⟨rfl, h⟩ <;> rcases k with k | ⟨rfl, k⟩
    · exact .inl (by omega)
    · exact .inl h
    · exact .inl k
    · exact .inr ⟨rfl, less_trans x y z h k⟩
theorem aLess_irr (a : A3) : aLess a a = false := by
  unfold aLess
  simp [less_irr]
theorem aLess_asym (a b : A3) (h : aLess a b = true) : aLess b a = false := by
  unfold aLess at h ⊢
  by_cases h1 : a.1 = b.1
  · rw [if_neg (by simpa using h1)] at h
    rw [if_neg (by simpa using h1.symm)]
    by_cases h2 : a.2.1 = b.2.1
    · rw [if_neg (by simpa using h2)] at h
      rw [if_neg (by simpa using h2.symm)]
      exact less_asym _ _ h
    · rw [if_pos h2] at h
      rw [if_pos (fun e => h2 e.symm)]
      exact less_asym _ _ h
  · rw [if_pos h1] at h
    rw [if_pos (fun e => h1 e.symm)]
    exact less_asym _ _ h
theorem aLess_tot (a b : A3) (h : a ≠ b) : aLess a b = true ∨ aLess b a = true := by
  obtain ⟨a1, a2, a3⟩ := a
  obtain ⟨b1, b2, b3⟩ := b
  unfold aLess
  dsimp only
  by_cases h1 : a1 = b1
  · subst h1
    by_cases h2 : a2 = b2
    · subst h2
      simpa using less_tot a3 b3 (fun h3 => h (by rw [h3]))
    · simpa [h2, Ne.symm h2] using less_tot a2 b2 h2
  · simpa [h1, Ne.symm h1] using less_tot a1 b1 h1
theorem aLess_trans (a b c : A3) (h : aLess a b = true) (k : aLess b c = true) : aLess a c = true := by
  obtain ⟨a1, a2, a3⟩ := a
  obtain ⟨b1, b2, b3⟩ := b
  obtain ⟨c1, c2, c3⟩ := c
  unfold aLess at h k ⊢
  dsimp only at h k ⊢
  by_cases e1 : a1 = b1
  · subst e1
    rw [if_neg (by simp)] at h
    by_cases f1 : a1 = c1
    · subst f1
      rw [if_neg (by simp)] at k ⊢
      by_cases e2 : a2 = b2
      · subst e2
        rw [if_neg (by simp)] at h
        by_cases f2 : a2 = c2
        · subst f2
          rw [if_neg (by simp)] at k ⊢
          exact less_trans _ _ _ h k
        · rw [if_pos f2] at k ⊢
          exact k
      · rw [if_pos e2] at h
        by_cases f2 : b2 = c2
        · subst f2
          rw [if_pos e2]; exact h
        · rw [if_pos f2] at k
          have t := less_trans _ _ _ h k
          rw [if_pos (by rintro rfl; rw [less_irr] at t; cases t)]
          exact t
    · rw [if_pos f1] at k ⊢
      exact k
  · rw [if_pos e1] at h
    by_cases f1 : b1 = c1
    · subst f1
      rw [if_pos e1]; exact h
    · rw [if_pos f1] at k
      have t := less_trans _ _ _ h k
      rw [if_pos (by rintro rfl; rw [less_irr] at t; cases t)]
      exact t
end Go.Proofs.Ytfgfkiifekeeaaa
