/- The plain law of DrrWorks: what went and what is left are the total; how Serve ends. -/
import Derived.Test.YteblbleehnkcmaaRef28n
namespace Go.Proofs.Yteblbleehnkcmaa
open Go.RowKit Go.Sort
set_option linter.unusedSimpArgs false
set_option linter.unusedVariables false

theorem tGo_sum (df left : Int) (xs : List Int) : (tGo df left xs).2.1 = left - (xs.take (tGo df left xs).2.2.1).sum := by
  induction xs generalizing df left with
  | nil => simp [tGo]
  | cons a r ih =>
    by_cases c1 : df < a
    · rw [tGo, if_pos c1]; simp
    · by_cases c2 : left < a
      · rw [tGo, if_neg c1, if_pos c2]; simp
      · rw [tGo_step c1 c2]
        dsimp only
        rw [ih, List.take_succ_cons, List.sum_cons]
        omega
theorem tGo_ends (df left : Int) (xs : List Int) (h : (tGo df left xs).2.2.2 = 2) : ∃ z r, xs.drop (tGo df left xs).2.2.1 = z :: r ∧ (tGo df left xs).2.1 < z ∧ z ≤ (tGo df left xs).1 := by
  induction xs generalizing df left with
  | nil => simp [tGo] at h
  | cons a r ih =>
    by_cases c1 : df < a
    · rw [tGo, if_pos c1] at h; simp at h
    · by_cases c2 : left < a
      · rw [tGo, if_neg c1, if_pos c2]; exact ⟨a, r, by simp, c2, by dsimp only; omega⟩
      · rw [tGo_step c1 c2] at h ⊢
        exact ih _ _ h
theorem rTurn_sum (df add left : Int) (xs : List Int) : (rTurn df add left xs).left = left - (xs.take (rTurn df add left xs).n).sum := by
  unfold rTurn
  split
  · rename_i h; simp
  · exact tGo_sum _ _ _
theorem rTurn_ends {df add left : Int} {xs : List Int} (h : (rTurn df add left xs).ends = true) : ∃ z r, xs.drop (rTurn df add left xs).n = z :: r ∧ (rTurn df add left xs).left < z ∧ z ≤ (rTurn df add left xs).df := by
  unfold rTurn at h ⊢
  split
  · rename_i hx; rw [if_pos hx] at h; cases h
  · rename_i hx
    rw [if_neg hx] at h
    have h2 : (tGo (min (df + add) 1073741824) left xs).2.2.2 = 2 := by simpa using h
    obtain ⟨z, r, a1, a2, a3⟩ := tGo_ends _ _ _ h2
    refine ⟨z, r, a1, a2, ?_⟩
    dsimp only
    rw [if_neg (by omega)]
    exact a3
/-- the bytes that went -/
def wSum (ld : List Ld) : List Fl → List Int → Int
  | f :: fl, g :: gs => ((dWait ld f.id).xs.take g.toNat).sum + wSum ld fl gs
  | _, _ => 0
theorem wSum_set (ld : List Ld) (fl : List Fl) (gs : List Int) (i : Nat) (f : Fl) (g : Int) (h1 : i < fl.length) (h2 : i < gs.length) (hf : f.id = fl[i].id) :
    wSum ld (fl.set i f) (gs.set i g) + ((dWait ld fl[i].id).xs.take gs[i].toNat).sum = wSum ld fl gs + ((dWait ld fl[i].id).xs.take g.toNat).sum := by
  induction fl generalizing gs i with
  | nil => simp at h1
  | cons a fl ih =>
    rcases gs with _ | ⟨b, gs⟩
    · simp at h2
    cases i with
    | zero =>
      simp only [List.set_cons_zero, List.getElem_cons_zero] at *
      rw [wSum, wSum, hf]; omega
    | succ i =>
      have := ih gs i (by simpa using h1) (by simpa using h2) (by simpa using hf)
      simp only [List.set_cons_succ, List.getElem_cons_succ] at *
      rw [wSum, wSum]; omega
theorem take_add_sum (xs : List Int) (g n : Nat) : (xs.take (g + n)).sum = (xs.take g).sum + ((xs.drop g).take n).sum := by
  rw [List.take_add, List.sum_append]
/-- what a turn keeps -/
structure WOk (q : Int) (ld : List Ld) (ids : List Int) (total : Int) (s : RS) : Prop where
  ok : RsOk q s
  sum : RsSum s
  rel : Wrel ld s
  ids : s.fl.map Fl.id = ids
  all : wSum ld s.fl s.went + s.left = total
theorem WOk.turn {q : Int} {ld : List Ld} {ids : List Int} {total : Int} {s : RS} (h : WOk q ld ids total s) : WOk q ld ids total (dNext q s) ∧ ((dTurn q s).2 = true → ∃ z r, (dEnd q s).wt[s.at_]? = some (z :: r) ∧ (dEnd q s).left < z ∧ z ≤ ((dEnd q s).fl[s.at_]?.map Fl.df).getD 0) := by
  obtain ⟨hok, hsum, hrel, hids, hall⟩ := h
  have h1 := hok.at_
  have h2 : s.at_ < s.wt.length := by rw [hok.wt]; exact h1
  have h3 : s.at_ < s.went.length := by rw [hok.went]; exact h1
  obtain ⟨n1, n2⟩ := hok.next hsum
  have n3 := hrel.next hok hsum
  have hD := dTurn_r hok h1 h2 h3
  obtain ⟨b1, b2, b3⟩ := hrel s.at_ h1 h2 h3
  have hS := rTurn_sum s.fl[s.at_].df (rAdd q s.mid s.fl[s.at_]) s.left s.wt[s.at_]
  have hE := fun (h : (rTurn s.fl[s.at_].df (rAdd q s.mid s.fl[s.at_]) s.left s.wt[s.at_]).ends = true) => rTurn_ends h
  refine ⟨⟨n1, n2, n3, ?_, ?_⟩, ?_⟩
  · unfold dNext
    rw [hD]
    unfold rNext
    dsimp only
    rw [List.map_set, ← hids]
    apply List.ext_getElem (by simp)
    intro j hj1 hj2
    rw [List.getElem_set]
    split
    · rename_i e; subst e; simp
    · rfl
  · unfold dNext
    rw [hD]
    unfold rNext
    dsimp only
    have hw := wSum_set ld s.fl s.went s.at_ ⟨s.fl[s.at_].id, s.fl[s.at_].wt, (rTurn s.fl[s.at_].df (rAdd q s.mid s.fl[s.at_]) s.left s.wt[s.at_]).df⟩ (s.went[s.at_] + ((rTurn s.fl[s.at_].df (rAdd q s.mid s.fl[s.at_]) s.left s.wt[s.at_]).n : Nat)) h1 h3 rfl
    have ht : (s.went[s.at_] + ((rTurn s.fl[s.at_].df (rAdd q s.mid s.fl[s.at_]) s.left s.wt[s.at_]).n : Nat)).toNat = s.went[s.at_].toNat + (rTurn s.fl[s.at_].df (rAdd q s.mid s.fl[s.at_]) s.left s.wt[s.at_]).n := by omega
    rw [ht, take_add_sum, ← b2] at hw
    omega
  · intro he
    rw [hD] at he
    obtain ⟨z, r, c1, c2, c3⟩ := hE he
    refine ⟨z, r, ?_, ?_, ?_⟩
    · unfold dEnd
      rw [hD]
      unfold rNext
      dsimp only
      rw [List.getElem?_set_self h2, c1]
    · unfold dEnd
      rw [hD]
      exact c2
    · unfold dEnd
      rw [hD]
      unfold rNext
      dsimp only
      rw [List.getElem?_set_self h1]
      exact c3
theorem WOk.dEnd {q : Int} {ld : List Ld} {ids : List Int} {total : Int} {s : RS} (h0 : WOk q ld ids total s) (h : WOk q ld ids total (dNext q s)) : WOk q ld ids total (dEnd q s) := by
  obtain ⟨⟨a1, _, a3, a4, a5, a6, a7, a8, a9⟩, b, c, d, e⟩ := h
  obtain ⟨e1, _, e3⟩ := dTurn_at q s
  refine ⟨⟨a1, ?_, a3, a4, a5, a6, a7, a8, a9⟩, b, c, d, e⟩
  show (dTurn q s).1.at_ < (dTurn q s).1.fl.length
  rw [e1, e3]; exact h0.ok.at_
/-- how Serve ends, and what it keeps -/
theorem dLoop_works {q : Int} {ld : List Ld} {ids : List Int} {total : Int} : ∀ (n : Nat) {s : RS}, WOk q ld ids total s → dMu s < n →
    WOk q ld ids total (dLoop q n s) ∧ ((dOp (dLoop q n s).wt = 0 ∧ (dLoop q n s = s ∨ (dLoop q n s).mid = false)) ∨ ((dLoop q n s).mid = true ∧ ∃ z r, (dLoop q n s).wt[(dLoop q n s).at_]? = some (z :: r) ∧ (dLoop q n s).left < z ∧ z ≤ ((dLoop q n s).fl[(dLoop q n s).at_]?.map Fl.df).getD 0)) := by
  intro n
  induction n with
  | zero => intro s _ h; omega
  | succ n ih =>
    intro s hs hn
    rw [dLoop]
    split
    · rename_i ho
      exact ⟨hs, .inl ⟨ho, .inl rfl⟩⟩
    · rename_i ho
      obtain ⟨w1, w2⟩ := hs.turn
      split
      · rename_i he
        refine ⟨hs.dEnd w1, .inr ⟨rfl, ?_⟩⟩
        have e1 : (dEnd q s).at_ = s.at_ := (dTurn_at q s).1
        rw [e1]
        exact w2 he
      · rename_i he
        have hlt := dMu_next hs.ok ho (by simpa using he)
        obtain ⟨i1, i2⟩ := ih w1 (by omega)
        refine ⟨i1, ?_⟩
        rcases i2 with ⟨a, b⟩ | b
        · refine .inl ⟨a, .inr ?_⟩
          rcases b with b | b
          · rw [b]; rfl
          · exact b
        · exact .inr b
theorem wSum_begin (ld : List Ld) (l : List Fl) : wSum ld l (List.replicate l.length 0) = 0 := by
  induction l with
  | nil => rfl
  | cons a l ih => rw [List.length_cons, List.replicate_succ, wSum, ih]; simp
end Go.Proofs.Yteblbleehnkcmaa
