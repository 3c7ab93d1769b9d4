/- The document's rounds and the program's are one: plain law. -/
import Derived.Test.YteblbleehnkcmaaRef28k
namespace Go.Proofs.Yteblbleehnkcmaa
open Go.RowKit Go.Sort
set_option linter.unusedSimpArgs false
set_option linter.unusedVariables false

/-- what waits is what was asked for, less what went -/
def Wrel (ld : List Ld) (s : RS) : Prop := ∀ i (h1 : i < s.fl.length) (h2 : i < s.wt.length) (h3 : i < s.went.length), 0 ≤ s.went[i] ∧ s.wt[i] = (dWait ld s.fl[i].id).xs.drop s.went[i].toNat ∧ s.went[i] ≤ ((dWait ld s.fl[i].id).xs.length : Nat)
def rAdd (q : Int) (mid : Bool) (f : Fl) : Int := if mid = true then 0 else q * f.wt
/-- a turn, told by the document's turn -/
def rNext (s : RS) (f : Fl) (x : List Int) (g : Int) (R : TR) : RS :=
  { s with fl := s.fl.set s.at_ ⟨f.id, f.wt, R.df⟩, wt := s.wt.set s.at_ (x.drop R.n), went := s.went.set s.at_ (g + (R.n : Nat)), left := R.left }
theorem dTurn_r {q : Int} {s : RS} (hok : RsOk q s) (h1 : s.at_ < s.fl.length) (h2 : s.at_ < s.wt.length) (h3 : s.at_ < s.went.length) :
    dTurn q s = (rNext s s.fl[s.at_] s.wt[s.at_] s.went[s.at_] (rTurn s.fl[s.at_].df (rAdd q s.mid s.fl[s.at_]) s.left s.wt[s.at_]), (rTurn s.fl[s.at_].df (rAdd q s.mid s.fl[s.at_]) s.left s.wt[s.at_]).ends) := by
  by_cases hx : s.wt[s.at_] = []
  · rw [dTurn_nil h1 (by simpa [List.getD_eq_getElem?_getD, h2] using hx)]
    have hr : rTurn s.fl[s.at_].df (rAdd q s.mid s.fl[s.at_]) s.left s.wt[s.at_] = ⟨0, s.left, 0, false⟩ := by unfold rTurn; rw [if_pos hx]
    rw [hr]
    unfold rNext
    have e1 : s.wt.set s.at_ (s.wt[s.at_].drop 0) = s.wt := by rw [List.drop_zero]; exact List.set_getElem_self h2
    have e2 : s.went.set s.at_ (s.went[s.at_] + ((0 : Nat) : Int)) = s.went := by rw [Int.natCast_zero, Int.add_zero]; exact List.set_getElem_self h3
    rw [e1, e2]
  · rw [dTurn_cons h1 h2 h3 hx]
    have hf := hok.fl _ (List.getElem_mem h1)
    have hd : tDf q s.mid s.fl[s.at_] = min (s.fl[s.at_].df + rAdd q s.mid s.fl[s.at_]) 1073741824 := by
      unfold tDf rAdd
      cases s.mid
      · rw [if_neg (by simp), if_neg (by simp)]
      · rw [if_pos rfl, if_pos rfl]; omega
    unfold rTurn
    rw [if_neg hx, hd]
    rfl
theorem rTurn_n {df add left : Int} {xs : List Int} (h1 : 0 ≤ df + add) (h2 : 0 ≤ left) (hx : ∀ n ∈ xs, 1 ≤ n) : (rTurn df add left xs).n ≤ xs.length := by
  unfold rTurn
  split
  · exact Nat.zero_le _
  · exact (tGo_facts (min (df + add) 1073741824) left xs (by omega) h2 hx).2.2.2.2
theorem rAdd_in {q : Int} {mid : Bool} {f : Fl} (hq : 128 ≤ q ∧ q ≤ 4096) (hf : 0 ≤ f.df ∧ f.df ≤ 1073741824 ∧ 1 ≤ f.wt ∧ f.wt ≤ 8) : 0 ≤ q * f.wt ∧ q * f.wt ≤ 32768 := by
  have h1 : q * f.wt ≤ 4096 * 8 := Int.mul_le_mul hq.2 hf.2.2.2 (by omega) (by omega)
  have h2 : 0 ≤ q * f.wt := Int.mul_nonneg (by omega) (by omega)
  omega
theorem rAdd_pos {q : Int} {mid : Bool} {f : Fl} (hq : 128 ≤ q ∧ q ≤ 4096) (hf : 0 ≤ f.df ∧ f.df ≤ 1073741824 ∧ 1 ≤ f.wt ∧ f.wt ≤ 8) : 0 ≤ rAdd q mid f ∧ rAdd q mid f ≤ 32768 := by
  have := rAdd_in (mid := mid) hq hf
  unfold rAdd; split <;> omega
theorem Wrel.next {q : Int} {s : RS} {ld : List Ld} (hok : RsOk q s) (h : Wrel ld s) (hs : RsSum s) : Wrel ld (dNext q s) := by
  have h1 := hok.at_
  have h2 : s.at_ < s.wt.length := by rw [hok.wt]; exact h1
  have h3 : s.at_ < s.went.length := by rw [hok.went]; exact h1
  unfold dNext
  rw [dTurn_r hok h1 h2 h3]
  have hRn := rTurn_n (df := s.fl[s.at_].df) (add := rAdd q s.mid s.fl[s.at_]) (left := s.left) (xs := s.wt[s.at_]) (by have := hok.fl _ (List.getElem_mem h1); have := rAdd_pos (mid := s.mid) hok.q this; omega) hok.left.1 (fun n hn => ((hok.size _ (List.getElem_mem h2)).2 n hn).1)
  generalize rTurn s.fl[s.at_].df (rAdd q s.mid s.fl[s.at_]) s.left s.wt[s.at_] = R at *
  unfold rNext
  intro i a1 a2 a3
  dsimp only at a1 a2 a3 ⊢
  rw [List.length_set] at a1 a2 a3
  obtain ⟨b1, b2, b3⟩ := h i a1 a2 a3
  rw [List.getElem_set, List.getElem_set, List.getElem_set]
  by_cases e : s.at_ = i
  · subst e
    rw [if_pos rfl, if_pos rfl, if_pos rfl]
    rw [b2, List.length_drop] at hRn
    refine ⟨by omega, ?_, by dsimp only; omega⟩
    dsimp only
    rw [b2, List.drop_drop]
    congr 1
    omega
  · rw [if_neg e, if_neg e, if_neg e]
    exact ⟨b1, b2, b3⟩
theorem Wrel.begin (l : List Fl) (at_ : Nat) (mid : Bool) (t : Int) (ld : List Ld) : Wrel ld (dBegin l at_ mid t ld) := by
  intro i h1 h2 h3
  simp [dBegin]
theorem flR_set3 (l : List Fl) (i : Nat) (g : Fl) (h : i < l.length) : (((flR l).set (i * 3) (.int .i64 g.id)).set (i * 3 + 1) (.int .i64 g.wt)).set (i * 3 + 2) (.int .i64 g.df) = flR (l.set i g) := by
  induction l generalizing i with
  | nil => simp at h
  | cons f r ih =>
    cases i with
    | zero => simp [flR, flC, List.flatMap_cons]
    | succ i =>
      have h' : i < r.length := by simpa using h
      have e0 : (i + 1) * 3 = (i * 3) + 1 + 1 + 1 := by omega
      have e1 : (i + 1) * 3 + 1 = (i * 3 + 1) + 1 + 1 + 1 := by omega
      have e2 : (i + 1) * 3 + 2 = (i * 3 + 2) + 1 + 1 + 1 := by omega
      have := ih i h'
      simp only [flR, List.flatMap_cons, flC, List.cons_append, List.nil_append, List.set_cons_succ] at *
      rw [e1, e2, e0]
      simp only [List.set_cons_succ]
      rw [this]
end Go.Proofs.Yteblbleehnkcmaa
