/- Numbers in decimal, there and back; strings.Split at one sign is 'parts between signs'. No program in sight. -/
import Derived.Test.YtfbllioegeadfaaDoorCfQ
import Derived.Lib.SplitLaws
import Derived.Lib.Split
import Derived.Lib.ItoaNum
import Derived.Lib.Join
namespace Go.Proofs.YtfbllioegeadfaaDoor
open Go.RowKit Go.Lib
set_option linter.unusedSimpArgs false
set_option linter.unusedVariables false

theorem splK (c : UInt8) : ∀ l : Tx, splitK [c] 0 (count l [c]) l = spl c l
  | [] => by rw [count_miss (by simp [index])]; rfl
  | b :: l => by
    have ih := splK c l
    by_cases h : b = c
    · subst h
      have hix : index (b :: l) [b] = ((0 : Nat) : Int) := by rw [index]; simp [List.isPrefixOf]
      rw [count_cons_eq, Nat.add_comm, splitK, hix, spl, if_pos rfl]
      simp [ih]
    · have hp : ([c] : List UInt8).isPrefixOf (b :: l) = false := by simp [List.isPrefixOf, Ne.symm h]
      have hix : index (b :: l) [c] = if index l [c] == -1 then -1 else index l [c] + 1 := by rw [index, hp]; simp
      rw [count_cons_ne b c l h, spl, if_neg h]
      by_cases hm : index l [c] = -1
      · rw [count_miss hm] at ih ⊢
        rw [splitK] at ih ⊢
        rw [← ih]
      · have hge := index_ge l [c]
        obtain ⟨i, hi⟩ : ∃ i : Nat, index l [c] = i := ⟨(index l [c]).toNat, by omega⟩
        rw [count_hit (by simp) hi, Nat.add_comm] at ih ⊢
        rw [splitK, hi] at ih
        rw [splitK, hix, hi]
        have e1 : (((i : Nat) : Int) == -1) = false := by simp
        have e2 : (((i : Nat) : Int) + 1 == -1) = false := by simp; omega
        rw [e1] at ih ⊢
        simp only [Bool.false_eq_true, if_false] at ih ⊢
        rw [e2]
        simp only [Bool.false_eq_true, if_false, List.length_cons, List.length_nil, Nat.add_zero] at ih ⊢
        rw [← ih]
        have e3 : ((i : Int) + 1).toNat = i + 1 := by omega
        have e4 : ((i : Int)).toNat = i := by omega
        rw [e3, e4]
        simp
theorem split_spl (s : ByteArray) (c : UInt8) : (splitB ⟨#[c]⟩ 0 (countB s ⟨#[c]⟩) s).map (·.data.toList) = spl c s.data.toList := by
  rw [splitB_data]
  exact splK c s.data.toList
theorem split_len (s : ByteArray) (c : UInt8) : countB s ⟨#[c]⟩ + 1 = (spl c s.data.toList).length := by
  rw [← split_spl, List.length_map, splitB_all ⟨#[c]⟩ (Nat.le_refl 1) 0 _ s rfl]
theorem join_jn (c : UInt8) : ∀ l : List Tx, Lib.join l [c] = jn c l := fun l => by
  cases l with
  | nil => rfl
  | cons x r => rw [join_cons, jn_tl]; rfl

/-! Digits. -/
theorem of_toNat (k : Nat) (h : k < 10) : (UInt8.ofNat (48 + k)).toNat = 48 + k := by
  rw [UInt8.toNat_ofNat']; omega
theorem dig_isD (k : Nat) (h : k < 10) : isD (UInt8.ofNat (48 + k)) = true := by
  unfold isD; rw [of_toNat k h]; simp; omega
theorem dec_step (u : Nat) (h : ¬ u < 10) : decDigits u = decDigits (u / 10) ++ [UInt8.ofNat (48 + u % 10)] := by rw [decDigits, dif_neg h]
theorem dec_facts : ∀ (k u : Nat), u < 10 ^ k → 1 ≤ k → (decDigits u).all isD = true ∧ valT (decDigits u) = u ∧ (decDigits u).length ≤ k ∧ decDigits u ≠ [] ∧ (1 ≤ u → (decDigits u).head? ≠ some 48) ∧ (10 ≤ u ∨ (decDigits u).length = 1) := by
  intro k
  induction k with
  | zero => intro u _ h; omega
  | succ k ih =>
    intro u hu _
    by_cases hs : u < 10
    · rw [decDigits_one hs]
      refine ⟨by rw [List.all_cons, dig_isD u hs]; rfl, ?_, by simp, by simp, ?_, .inr rfl⟩
      · show 10 * (0 : Int) + (((UInt8.ofNat (48 + u)).toNat : Int) - 48) = u
        rw [of_toNat u hs]; omega
      · intro h1 h2
        injection h2 with h2
        have := congrArg UInt8.toNat h2
        rw [of_toNat u hs] at this
        have h48 : (48 : UInt8).toNat = 48 := rfl
        omega
    · have hk : 1 ≤ k := by
        rcases k with _ | k
        · simp at hu; omega
        · omega
      obtain ⟨i1, i2, i3, i4, i5, i6⟩ := ih (u / 10) (by rw [Nat.pow_succ] at hu; omega) hk
      rw [dec_step u hs]
      refine ⟨by rw [List.all_append, i1, List.all_cons, dig_isD (u % 10) (by omega)]; rfl, ?_, by simp; omega, by simp, ?_, .inl (by omega)⟩
      · have e : valT (decDigits (u / 10) ++ [UInt8.ofNat (48 + u % 10)]) = 10 * valT (decDigits (u / 10)) + (((UInt8.ofNat (48 + u % 10)).toNat : Int) - 48) := by simp [valT]
        rw [e, i2, of_toNat _ (by omega)]; omega
      · intro _
        cases hd : decDigits (u / 10) with
        | nil => exact absurd hd i4
        | cons x r => rw [hd] at i5; exact i5 (by omega)
def dg (n : Int) : Tx := decDigits n.toNat
theorem numS_dg (n : Int) (h0 : 0 ≤ n) (h1 : n < 10000000) : numS (dg n) = some n := by
  obtain ⟨i1, i2, i3, i4, i5, i6⟩ := dec_facts 7 n.toNat (by omega) (by omega)
  unfold dg
  rw [numS_of ?_ i1, i2]
  · congr 1; omega
  · unfold bad0
    rintro (h | h | ⟨h, h2⟩)
    · exact i4 h
    · omega
    · rcases i6 with i6 | i6
      · exact i5 (by omega) h2
      · omega
theorem dg_of : ∀ (k : Nat) (d : Tx), d.length = k → d ≠ [] → d.all isD = true → (1 < d.length → d.head? ≠ some 48) → ∃ u : Nat, valT d = u ∧ d = decDigits u ∧ (d.head? ≠ some 48 → 1 ≤ u) := by
  intro k
  induction k with
  | zero => intro d h h0; exact absurd (List.eq_nil_of_length_eq_zero h) h0
  | succ k ih =>
    intro d hl h0 ha hh
    obtain ⟨t, b, rfl⟩ : ∃ t b, d = t ++ [b] := by
      rcases List.eq_nil_or_concat d with rfl | ⟨t', b, e⟩
      · exact absurd rfl h0
      · exact ⟨t', b, by simpa using e⟩
    simp only [List.all_append, List.all_cons, List.all_nil, Bool.and_true, Bool.and_eq_true] at ha
    have hb := ha.2
    simp only [isD, Bool.and_eq_true, decide_eq_true_eq] at hb
    have hof : UInt8.ofNat (48 + (b.toNat - 48)) = b := by
      rw [show 48 + (b.toNat - 48) = b.toNat by omega]; exact UInt8.ofNat_toNat
    have hv : valT (t ++ [b]) = 10 * valT t + ((b.toNat : Int) - 48) := by simp [valT]
    cases ht : t with
    | nil =>
      refine ⟨b.toNat - 48, ?_, ?_, ?_⟩
      · rw [ht] at hv; rw [hv]; show 10 * (0 : Int) + _ = _; omega
      · rw [decDigits_one (by omega), hof]; rfl
      · intro h2
        rcases Nat.eq_zero_or_pos (b.toNat - 48) with h3 | h3
        · refine absurd ?_ h2
          show some b = some 48
          congr 1
          exact UInt8.toNat_inj.1 (by have : (48 : UInt8).toNat = 48 := rfl; omega)
        · exact h3
    | cons x r =>
      rw [← ht]
      have hne : t ≠ [] := by rw [ht]; simp
      have hlen : t.length = r.length + 1 := by rw [ht]; rfl
      have hhd : (t ++ [b]).head? = t.head? := by rw [ht]; rfl
      have h48 : t.head? ≠ some 48 := by rw [← hhd]; exact hh (by simp [hlen])
      obtain ⟨u, i1, i2, i3⟩ := ih t (by simpa using hl) hne ha.1 (fun _ => h48)
      have hu1 := i3 h48
      refine ⟨10 * u + (b.toNat - 48), ?_, ?_, ?_⟩
      · rw [hv, i1]; omega
      · rw [dec_step _ (by omega), show (10 * u + (b.toNat - 48)) / 10 = u by omega, show (10 * u + (b.toNat - 48)) % 10 = b.toNat - 48 by omega, ← i2, hof]
      · intro _; omega
theorem numS_only {d : Tx} {n : Int} (h : numS d = some n) : d = dg n ∧ 0 ≤ n := by
  obtain ⟨h1, h2, rfl⟩ := numS_some h
  unfold bad0 at h1
  simp only [not_or, not_and] at h1
  obtain ⟨u, e1, e2, _⟩ := dg_of _ d rfl h1.1 h2 h1.2.2
  rw [e1]
  exact ⟨by unfold dg; rw [Int.toNat_natCast]; exact e2, by omega⟩
theorem nums_only : ∀ {ds : List Tx} {l : List Int}, nums ds = some l → ds = l.map dg
  | [], l, h => by simp [nums] at h; subst h; rfl
  | t :: r, l, h => by
    simp only [nums, Option.bind_eq_some_iff, Option.map_eq_some_iff] at h
    obtain ⟨n, hn, b, hb, rfl⟩ := h
    rw [nums_only hb, List.map_cons, ← (numS_only hn).1]
theorem nums_dg : ∀ (l : List Int), (∀ n ∈ l, 0 ≤ n ∧ n < 10000000) → nums (l.map dg) = some l
  | [], _ => rfl
  | n :: l, h => by
    simp only [List.map_cons, nums, numS_dg n (h n (by simp)).1 (h n (by simp)).2, nums_dg l (fun m hm => h m (by simp [hm])), Option.bind_some, Option.map_some]
/-- the text of numbers -/
def pText (fs : Fd) (l : List Int) : Tx := cat (pxs fs) (l.map dg)
theorem read_text {fs : Fd} {s : Tx} {l : List Int} (h : rRun (pxs fs) s = some l) : s = pText fs l ∧ l.length = (pxs fs).length := by
  obtain ⟨ds, h1, h2, h3⟩ := rRun_to _ _ _ h
  have e := nums_only h3
  refine ⟨by rw [h2, e]; rfl, ?_⟩
  rw [nums_len _ _ h3, h1]
theorem text_read {fs : Fd} (hf : FdOk fs) (l : List Int) (hl : l.length = (pxs fs).length) (hn : ∀ n ∈ l, 0 ≤ n ∧ n < 10000000) : rRun (pxs fs) (pText fs l) = some l :=
  rRun_of _ _ _ hf.px (by simpa using hl) (nums_dg l hn)
end Go.Proofs.YtfbllioegeadfaaDoor
