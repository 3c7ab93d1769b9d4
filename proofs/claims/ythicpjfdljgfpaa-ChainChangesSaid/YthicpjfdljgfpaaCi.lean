/- Lists by links: what each answer is of a state of lists. No program in sight. -/
import Derived.Test.YthicpjfdljgfpaaChz
namespace Go.Proofs.Ythicpjfdljgfpaa
set_option linter.unusedSimpArgs false
set_option linter.unusedVariables false

theorem cIn_at {i : Nat} {m : Nat} (h : i < m) : cIn (i : Int) 0 ((m : Int) - 1) = true := cIn_mk (by omega)
section
variable {n : Nat} {L : List (List Nat)} (hG : Good n L)
include hG
theorem Good.push {i a : Nat} (hi : i < L.length) (ha : a < n) : (a ∈ L.flatten ∧ cPush (laid n L) i a = (laid n L, 13)) ∨ (a ∉ L.flatten ∧ cPush (laid n L) i a = (laid n (L.set i (L[i] ++ [a])), 0) ∧ Good n (L.set i (L[i] ++ [a]))) := by
  obtain ⟨e1, e2, e3⟩ := laid_lens n L
  have hc : ¬ (cCheck (laid n L) ≠ 0) := by simp [hG.check]
  have hb1 : ¬ (cIn (i : Int) 0 (((laid n L).hs.length : Int) - 1) = false) := by rw [e2, cIn_at hi]; simp
  have hb2 : ¬ (cIn (a : Int) 0 (((laid n L).ns.length : Int) - 1) = false) := by rw [e1, cIn_at ha]; simp
  unfold cPush
  rw [if_neg hc, if_neg hb1, if_neg hb2, Int.toNat_natCast, Int.toNat_natCast]
  rcases nd_l hG.vl ha with ⟨h1, h2⟩ | ⟨k, hk, h1, h2⟩
  · rw [h2, if_neg (by simp), put_at hG.vl hi h1 ha]
    exact .inr ⟨h1, rfl, vl_put hG.vl hi h1 ha, hG.n1, hG.n2, by simpa using hG.l1, by simpa using hG.l2⟩
  · rw [h2, if_pos (by omega)]
    exact .inl ⟨List.mem_flatten.2 ⟨_, List.getElem_mem hk, h1⟩, rfl⟩
theorem Good.unlink {a : Nat} (ha : a < n) : (a ∉ L.flatten ∧ cUnlink (laid n L) a = (laid n L, 6)) ∨ ∃ k, ∃ hk : k < L.length, a ∈ L[k] ∧ cUnlink (laid n L) a = (laid n (L.set k (L[k].filter (fun x => x != a))), 0) ∧ Good n (L.set k (L[k].filter (fun x => x != a))) := by
  obtain ⟨e1, e2, e3⟩ := laid_lens n L
  have hc : ¬ (cCheck (laid n L) ≠ 0) := by simp [hG.check]
  have hb2 : ¬ (cIn (a : Int) 0 (((laid n L).ns.length : Int) - 1) = false) := by rw [e1, cIn_at ha]; simp
  unfold cUnlink
  rw [if_neg hc, if_neg hb2, Int.toNat_natCast]
  rcases nd_l hG.vl ha with ⟨h1, h2⟩ | ⟨k, hk, h1, h2⟩
  · rw [if_pos h2]; exact .inl ⟨h1, rfl⟩
  · rw [if_neg (by rw [h2]; omega)]
    obtain ⟨l, m, e⟩ := List.append_of_mem h1
    have hnd := (vl_clear hG.vl hk).2.1
    have hf : L[k].filter (fun x => x != a) = l ++ m := by rw [e, filter_cut (by rw [← e]; exact hnd)]
    refine .inr ⟨k, hk, h1, by rw [cut_at hG.vl hk e, hf], vl_sub hG.vl hk (hnd.filter _) (fun p hp => (List.mem_filter.1 hp).1), hG.n1, hG.n2, by simpa using hG.l1, by simpa using hG.l2⟩
theorem Good.turn {i : Nat} (hi : i < L.length) : cTurn (laid n L) i = laid n (L.set i (L[i].tail ++ L[i].take 1)) ∧ Good n (L.set i (L[i].tail ++ L[i].take 1)) := by
  obtain ⟨e1, e2, e3⟩ := laid_lens n L
  have hc : ¬ (cCheck (laid n L) ≠ 0) := by simp [hG.check]
  have hb1 : ¬ (cIn (i : Int) 0 (((laid n L).hs.length : Int) - 1) = false) := by rw [e2, cIn_at hi]; simp
  rw [turn_eq]
  unfold dTurn
  rw [if_neg hc, if_neg hb1, Int.toNat_natCast, lists_laid hG.vl, e1, nth_at hi]
  have hh : (laid n L).hs.getD i (-1) = hd L[i] := by
    rw [List.getD_eq_getElem?_getD, hs_at hi, nth_at hi]; rfl
  rw [hh]
  cases hl : L[i] with
  | nil =>
    have e : L.set i [] = L := nth_self hi (by rw [nth_at hi, hl])
    simp only [hd, List.tail_nil, List.take_nil, List.append_nil]
    rw [e]
    exact ⟨rfl, hG⟩
  | cons f m =>
    rw [if_neg (show ¬ hd (f :: m) < 0 by simp [hd])]
    refine ⟨rfl, ?_⟩
    simp only [List.tail_cons, List.take_succ_cons, List.take_zero]
    refine ⟨vl_sub hG.vl hi ?_ ?_, hG.n1, hG.n2, by simpa using hG.l1, by simpa using hG.l2⟩
    · have h := (vl_clear hG.vl hi).2.1
      rw [hl] at h
      obtain ⟨h1, h2⟩ := List.nodup_cons.1 h
      exact List.nodup_append.2 ⟨h2, by simp, fun p hp q hq e => by simp at hq; subst hq; subst e; exact h1 hp⟩
    · intro p hp
      rw [hl]
      rcases List.mem_append.1 hp with h | h
      · exact List.mem_cons_of_mem _ h
      · simp at h; simp [h]
theorem Good.splice {i j : Nat} (hi : i < L.length) (hj : j < L.length) : (i = j ∧ dSplice (laid n L) i j = (laid n L, 2)) ∨ (i ≠ j ∧ dSplice (laid n L) i j = (laid n ((L.set j (L[j] ++ L[i])).set i []), 0) ∧ Good n ((L.set j (L[j] ++ L[i])).set i [])) := by
  obtain ⟨e1, e2, e3⟩ := laid_lens n L
  have hc : ¬ (cCheck (laid n L) ≠ 0) := by simp [hG.check]
  have hb1 : ¬ (cIn (i : Int) 0 (((laid n L).hs.length : Int) - 1) = false) := by rw [e2, cIn_at hi]; simp
  have hb2 : ¬ (cIn (j : Int) 0 (((laid n L).hs.length : Int) - 1) = false) := by rw [e2, cIn_at hj]; simp
  unfold dSplice
  rw [if_neg hc, if_neg hb1, if_neg hb2, Int.toNat_natCast, Int.toNat_natCast, lists_laid hG.vl, e1, nth_at hi, nth_at hj]
  by_cases hij : i = j
  · rw [if_pos (by omega)]; exact .inl ⟨hij, rfl⟩
  · rw [if_neg (by omega)]
    refine .inr ⟨hij, rfl, ?_, hG.n1, hG.n2, by simpa using hG.l1, by simpa using hG.l2⟩
    obtain ⟨a1, a2, a3, a4⟩ := vl_clear hG.vl hi
    have hj' : j < (L.set i []).length := by simpa using hj
    have ej : (L.set i [])[j] = L[j] := by rw [List.getElem_set_ne hij]
    obtain ⟨b1, b2, b3, b4⟩ := vl_clear a1 hj'
    rw [ej] at b2 b3 b4
    rw [List.set_comm _ _ (Ne.symm hij)]
    have hsub : ∀ p, p ∈ ((L.set i []).set j []).flatten → p ∈ (L.set i []).flatten := fun p hp => by
      obtain ⟨m, hm, hpm⟩ := List.mem_flatten.1 hp
      rcases List.mem_or_eq_of_mem_set hm with h | h
      · exact List.mem_flatten.2 ⟨m, h, hpm⟩
      · rw [h] at hpm; cases hpm
    refine vl_perm hj' b1 ?_ ?_ ?_
    · refine List.nodup_append.2 ⟨b2, a2, fun p hp q hq e => ?_⟩
      subst e
      refine a4 p hq (List.mem_flatten.2 ⟨L[j], ?_, hp⟩)
      rw [← ej]; exact List.getElem_mem hj'
    · intro p hp
      rcases List.mem_append.1 hp with h | h
      · exact b3 p h
      · exact a3 p h
    · intro p hp
      rcases List.mem_append.1 hp with h | h
      · exact b4 p h
      · exact fun h' => a4 p h (hsub p h')
theorem Good.walk {i : Nat} (hi : i < L.length) : cWalkR (laid n L) i = L[i] := by
  obtain ⟨e1, e2, e3⟩ := laid_lens n L
  unfold cWalkR
  rw [if_neg (by rw [e2, cIn_at hi]; simp), if_neg (by simp [hG.check]), Int.toNat_natCast, walk_at hG.vl hi]
theorem Good.back {i : Nat} (hi : i < L.length) : dBack (laid n L) i = L[i].reverse := by
  obtain ⟨e1, e2, e3⟩ := laid_lens n L
  unfold dBack
  rw [if_neg (by rw [e2, cIn_at hi]; simp), if_neg (by simp [hG.check]), Int.toNat_natCast, lists_laid hG.vl, nth_at hi]
theorem Good.front {i : Nat} (hi : i < L.length) : cFront (laid n L) i = hd L[i] := by
  obtain ⟨e1, e2, e3⟩ := laid_lens n L
  unfold cFront
  rw [if_neg (by rw [e2, cIn_at hi]; simp), if_neg (by simp [hG.check]), Int.toNat_natCast, List.getD_eq_getElem?_getD, hs_at hi, nth_at hi]
  rfl
end
theorem good_new {n k : Nat} (hn : 1 ≤ n ∧ n ≤ 64) (hk : 1 ≤ k ∧ k ≤ 8) : Good n (List.replicate k []) ∧ dNew n k = (laid n (List.replicate k []), 0) := by
  refine ⟨⟨⟨fun l hl => by rw [(List.mem_replicate.1 hl).2]; simp, ?_⟩, hn.1, hn.2, by simpa using hk.1, by simpa using hk.2⟩, ?_⟩
  · have : (List.replicate k ([] : List Nat)).flatten = [] := by simp
    rw [this]; simp
  · unfold dNew
    rw [if_neg (by rw [cIn_mk (by omega)]; simp), if_neg (by rw [cIn_mk (by omega)]; simp)]
    rfl
end Go.Proofs.Ythicpjfdljgfpaa
