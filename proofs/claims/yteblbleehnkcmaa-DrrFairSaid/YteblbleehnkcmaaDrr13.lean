/- Package drr: what Serve computes, by turns, and why it ends. -/
import Derived.Test.YteblbleehnkcmaaDrr12
namespace Go.Proofs.Yteblbleehnkcmaa
open Go.RowKit Go.Sort
set_option linter.unusedSimpArgs false
set_option linter.unusedVariables false

def dNext (q : Int) (s : RS) : RS := { (dTurn q s).1 with at_ := (s.at_ + 1) % s.fl.length, mid := false }
def dEnd (q : Int) (s : RS) : RS := { (dTurn q s).1 with mid := true }
def dLoop (q : Int) : Nat → RS → RS
  | 0, s => s
  | n + 1, s => if dOp s.wt = 0 then s else if (dTurn q s).2 = true then dEnd q s else dLoop q n (dNext q s)
def RsSum (s : RS) : Prop := ∀ i (h : i < s.wt.length) (h' : i < s.went.length), 0 ≤ s.went[i] ∧ s.went[i] + (s.wt[i].length : Nat) ≤ 1000
def dDist (s : RS) : Nat := (s.wt.drop s.at_ ++ s.wt.take s.at_).findIdx (fun x => decide (x ≠ []))
def dItems (l : List (List Int)) : Nat := (l.map List.length).sum
def dMu (s : RS) : Nat := (dItems s.wt + (if s.mid = true then 1 else 0)) * (s.fl.length + 1) + dDist s
theorem tGo_facts (df left : Int) (xs : List Int) (h1 : 0 ≤ df) (h2 : 0 ≤ left) (hx : ∀ n ∈ xs, 1 ≤ n) : 0 ≤ (tGo df left xs).1 ∧ (tGo df left xs).1 ≤ df ∧ 0 ≤ (tGo df left xs).2.1 ∧ (tGo df left xs).2.1 ≤ left ∧ (tGo df left xs).2.2.1 ≤ xs.length := by
  induction xs generalizing df left with
  | nil => simp [tGo]; omega
  | cons a r ih =>
    have ha := hx a (List.mem_cons_self ..)
    by_cases c1 : df < a
    · rw [tGo, if_pos c1]; simp; omega
    · by_cases c2 : left < a
      · rw [tGo, if_neg c1, if_pos c2]; simp; omega
      · rw [tGo_step c1 c2]
        have := ih (df - a) (left - a) (by omega) (by omega) (fun n hn => hx n (List.mem_cons_of_mem _ hn))
        simp only [List.length_cons]
        omega
theorem dTurn_nil {q : Int} {s : RS} (h : s.at_ < s.fl.length) (hx : s.wt.getD s.at_ [] = []) : dTurn q s = ({ s with fl := s.fl.set s.at_ ⟨s.fl[s.at_].id, s.fl[s.at_].wt, 0⟩ }, false) := by
  unfold dTurn
  simp [List.getD_eq_getElem?_getD, h] at *
  simp [hx]
theorem dTurn_cons {q : Int} {s : RS} (h : s.at_ < s.fl.length) (hw : s.at_ < s.wt.length) (hg : s.at_ < s.went.length) (hx : s.wt[s.at_] ≠ []) : dTurn q s = dTurned q s s.fl[s.at_] s.wt[s.at_] s.went[s.at_] (tGo (tDf q s.mid s.fl[s.at_]) s.left s.wt[s.at_]) := by
  unfold dTurn dTurned
  simp [List.getD_eq_getElem?_getD, h, hw, hg, hx]
theorem dItems_set (l : List (List Int)) (i : Nat) (y : List Int) (h : i < l.length) : dItems (l.set i y) + l[i].length = dItems l + y.length := by
  unfold dItems
  induction l generalizing i with
  | nil => simp at h
  | cons z r ih =>
    cases i with
    | zero => simp; omega
    | succ i => have := ih i (by simpa using h); simp at *; omega
theorem tDf_in {q : Int} {mid : Bool} {f : Fl} (hq : 128 ≤ q ∧ q ≤ 4096) (hf : 0 ≤ f.df ∧ f.df ≤ 1073741824 ∧ 1 ≤ f.wt ∧ f.wt ≤ 8) : 0 ≤ tDf q mid f ∧ tDf q mid f ≤ 1073741824 ∧ (mid = false → 128 ≤ tDf q mid f) := by
  have h1 : q * 1 ≤ q * f.wt := Int.mul_le_mul_of_nonneg_left hf.2.2.1 (by omega)
  unfold tDf
  cases mid <;> simp <;> omega
theorem RsOk.next {q : Int} {s : RS} (h : RsOk q s) (hs : RsSum s) : RsOk q (dNext q s) ∧ RsSum (dNext q s) := by
  obtain ⟨hn, hat, hwt, hwe, hq, hleft, hfl, hsz, hso⟩ := h
  have hw : s.at_ < s.wt.length := by omega
  have hg : s.at_ < s.went.length := by omega
  have hmod : (s.at_ + 1) % s.fl.length < s.fl.length := Nat.mod_lt _ (by omega)
  have hf := hfl _ (List.getElem_mem hat)
  unfold dNext
  by_cases hx : s.wt[s.at_] = []
  · rw [dTurn_nil hat (by simpa [List.getD_eq_getElem?_getD, hw] using hx)]
    refine ⟨⟨by simpa using hn, by simpa using hmod, by simpa using hwt, by simpa using hwe, hq, hleft, ?_, hsz, hso⟩, hs⟩
    intro f' hf'
    rcases List.mem_or_eq_of_mem_set hf' with h | rfl
    · exact hfl _ h
    · dsimp only; omega
  · rw [dTurn_cons hat hw hg hx]
    have hz := hsz _ (List.getElem_mem hw)
    obtain ⟨d1, d2, _⟩ := tDf_in (mid := s.mid) hq hf
    have ht := tGo_facts (tDf q s.mid s.fl[s.at_]) s.left s.wt[s.at_] d1 hleft.1 (fun n hn => (hz.2 n hn).1)
    have hsum := hs s.at_ hw hg
    generalize tGo (tDf q s.mid s.fl[s.at_]) s.left s.wt[s.at_] = r at *
    unfold dTurned
    dsimp only
    have key : RsSum { fl := s.fl.set s.at_ ⟨s.fl[s.at_].id, s.fl[s.at_].wt, if r.2.2.2 = 0 then 0 else r.1⟩, at_ := (s.at_ + 1) % s.fl.length, mid := false, wt := s.wt.set s.at_ (s.wt[s.at_].drop r.2.2.1), went := s.went.set s.at_ (s.went[s.at_] + (r.2.2.1 : Nat)), left := r.2.1 } := by
      intro i h1 h2
      dsimp only at h1 h2 ⊢
      rw [List.length_set] at h1 h2
      rw [List.getElem_set, List.getElem_set]
      split
      · rw [List.length_drop]; omega
      · exact hs i h1 h2
    refine ⟨⟨by simpa using hn, by simpa using hmod, by simpa using hwt, by simpa using hwe, hq, by dsimp only; omega, ?_, ?_, ?_⟩, key⟩
    · intro f' hf'
      rcases List.mem_or_eq_of_mem_set hf' with h | rfl
      · exact hfl _ h
      · dsimp only; split <;> omega
    · intro x hx'
      rcases List.mem_or_eq_of_mem_set hx' with h | rfl
      · exact hsz _ h
      · exact ⟨by rw [List.length_drop]; omega, fun n hn => hz.2 n (List.mem_of_mem_drop hn)⟩
    · intro n hn'
      rcases List.mem_or_eq_of_mem_set hn' with h | rfl
      · exact hso _ h
      · omega
theorem findIdx_rot {l : List (List Int)} {i : Nat} (h : i < l.length) (hi : l[i] = []) (ho : dOp l ≠ 0) : (l.drop ((i + 1) % l.length) ++ l.take ((i + 1) % l.length)).findIdx (fun x => decide (x ≠ [])) + 1 = (l.drop i ++ l.take i).findIdx (fun x => decide (x ≠ [])) := by
  have e1 : l.drop i ++ l.take i = [] :: (l.drop (i + 1) ++ l.take i) := by rw [List.drop_eq_getElem_cons h, hi]; rfl
  have e2 : l.drop ((i + 1) % l.length) ++ l.take ((i + 1) % l.length) = (l.drop (i + 1) ++ l.take i) ++ [[]] := by
    by_cases hl : i + 1 = l.length
    · rw [hl, Nat.mod_self]
      have e3 : l.take (i + 1) = l.take i ++ [[]] := by rw [take_snocL l i h, hi]
      rw [List.take_of_length_le (by omega)] at e3
      simp [← e3]
    · rw [Nat.mod_eq_of_lt (by omega), take_snocL l i h, hi]; simp
  have hex : ∃ x ∈ l.drop (i + 1) ++ l.take i, decide (x ≠ []) = true := by
    apply Classical.byContradiction
    intro hno
    apply ho
    unfold dOp
    rw [List.filter_eq_nil_iff.2]
    · rfl
    · intro x hx hp
      obtain ⟨j, hj, rfl⟩ := List.getElem_of_mem hx
      rcases Nat.lt_trichotomy j i with h1 | h1 | h1
      · exact hno ⟨l[j], List.mem_append_right _ (List.mem_take_iff_getElem.2 ⟨j, by omega, rfl⟩), hp⟩
      · subst h1; simp [hi] at hp
      · exact hno ⟨l[j], List.mem_append_left _ (List.mem_drop_iff_getElem.2 ⟨j - (i + 1), by omega, by congr 1; omega⟩), hp⟩
  rw [e1, e2, List.findIdx_cons, List.findIdx_append, if_pos (List.findIdx_lt_length.2 hex)]
  simp
theorem dDist_le (s : RS) (h : s.at_ ≤ s.wt.length) : dDist s ≤ s.wt.length := by
  unfold dDist
  refine Nat.le_trans List.findIdx_le_length ?_
  rw [List.length_append, List.length_drop, List.length_take]; omega
theorem dMu_next {q : Int} {s : RS} (h : RsOk q s) (ho : dOp s.wt ≠ 0) (he : (dTurn q s).2 = false) : dMu (dNext q s) < dMu s := by
  obtain ⟨hn, hat, hwt, hwe, hq, hleft, hfl, hsz, hso⟩ := h
  have hw : s.at_ < s.wt.length := by omega
  have hg : s.at_ < s.went.length := by omega
  have hmod : (s.at_ + 1) % s.fl.length < s.fl.length := Nat.mod_lt _ (by omega)
  have hf := hfl _ (List.getElem_mem hat)
  by_cases hx : s.wt[s.at_] = []
  · have h1 := findIdx_rot hw hx ho
    unfold dMu dNext
    rw [dTurn_nil hat (by simpa [List.getD_eq_getElem?_getD, hw] using hx)]
    unfold dDist
    dsimp only
    rw [List.length_set, ← hwt] at *
    rw [if_neg (by simp), Nat.add_zero]
    have h2 : dItems s.wt * (s.wt.length + 1) ≤ (dItems s.wt + if s.mid = true then 1 else 0) * (s.wt.length + 1) := Nat.mul_le_mul_right _ (by omega)
    omega
  · have hdn := dDist_le (dNext q s) (by
      unfold dNext
      rw [dTurn_cons hat hw hg hx]
      unfold dTurned
      dsimp only
      rw [List.length_set]; omega)
    have hz := hsz _ (List.getElem_mem hw)
    obtain ⟨d1, d2, d3⟩ := tDf_in (mid := s.mid) hq hf
    have hI : dItems (dNext q s).wt + (if s.mid = true then 0 else 1) ≤ dItems s.wt := by
      unfold dNext
      rw [dTurn_cons hat hw hg hx] at he ⊢
      unfold dTurned at he ⊢
      dsimp only at he ⊢
      have h2 := dItems_set s.wt s.at_ (s.wt[s.at_].drop (tGo (tDf q s.mid s.fl[s.at_]) s.left s.wt[s.at_]).2.2.1) hw
      have ht := tGo_facts (tDf q s.mid s.fl[s.at_]) s.left s.wt[s.at_] d1 hleft.1 (fun n hn => (hz.2 n hn).1)
      rw [List.length_drop] at h2
      split
      · omega
      · rename_i hm
        have h128 := d3 (by simpa using hm)
        have h3 : 1 ≤ (tGo (tDf q s.mid s.fl[s.at_]) s.left s.wt[s.at_]).2.2.1 := by
          generalize s.wt[s.at_] = x at *
          generalize tDf q s.mid s.fl[s.at_] = d at *
          rcases x with _ | ⟨a, r⟩
          · exact absurd rfl hx
          · have ha := hz.2 a (List.mem_cons_self ..)
            by_cases c2 : s.left < a
            · rw [tGo, if_neg (by omega), if_pos c2] at he; simp at he
            · rw [tGo_step (by omega) c2]; dsimp only; omega
        omega
    have hL : (dNext q s).fl.length = s.fl.length := by
      unfold dNext
      rw [dTurn_cons hat hw hg hx]
      unfold dTurned
      simp
    have hW : (dNext q s).wt.length = s.fl.length := by
      unfold dNext
      rw [dTurn_cons hat hw hg hx]
      unfold dTurned
      simp [hwt]
    unfold dMu
    rw [hL]
    rw [hW] at hdn
    have hm0 : (dNext q s).mid = false := rfl
    rw [if_neg (by rw [hm0]; simp), Nat.add_zero]
    have h5 : (dItems (dNext q s).wt + 1) * (s.fl.length + 1) ≤ (dItems s.wt + if s.mid = true then 1 else 0) * (s.fl.length + 1) := Nat.mul_le_mul_right _ (by split <;> split at hI <;> simp_all)
    rw [Nat.add_mul, Nat.one_mul] at h5
    omega
theorem dLoop_fuel {q : Int} : ∀ (n : Nat) {s : RS}, RsOk q s → RsSum s → dMu s ≤ n → dLoop q (n + 1) s = dLoop q (dMu s + 1) s := by
  intro n
  induction n using Nat.strongRecOn with
  | _ n ih =>
    intro s hok hs hn
    rw [dLoop, dLoop]
    split
    · rfl
    · rename_i ho
      split
      · rfl
      · rename_i he
        have hlt := dMu_next hok ho (by simpa using he)
        obtain ⟨hok', hs'⟩ := hok.next hs
        obtain ⟨m, hm⟩ : ∃ m, n = m + 1 := ⟨n - 1, by omega⟩
        obtain ⟨k, hk⟩ : ∃ k, dMu s = k + 1 := ⟨dMu s - 1, by omega⟩
        subst hm
        rw [hk, ih m (by omega) hok' hs' (by omega)]
        rcases Nat.lt_or_ge k (m + 1) with h | h
        · rw [ih k h hok' hs' (by omega)]
        · have : k = m := by omega
          subst this
          rw [ih k (by omega) hok' hs' (by omega)]
theorem dLoop_next {q : Int} {s : RS} (hok : RsOk q s) (hs : RsSum s) (ho : dOp s.wt ≠ 0) (he : (dTurn q s).2 = false) : dLoop q (dMu s + 1) s = dLoop q (dMu (dNext q s) + 1) (dNext q s) := by
  have hlt := dMu_next hok ho he
  obtain ⟨hok', hs'⟩ := hok.next hs
  obtain ⟨k, hk⟩ : ∃ k, dMu s = k + 1 := ⟨dMu s - 1, by omega⟩
  rw [dLoop, if_neg ho, if_neg (by rw [he]; simp), hk, dLoop_fuel k hok' hs' (by omega)]
end Go.Proofs.Yteblbleehnkcmaa
