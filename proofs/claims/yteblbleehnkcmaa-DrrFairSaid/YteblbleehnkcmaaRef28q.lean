/- The plain law of DrrFair: what Serve keeps, if always something waits. -/
import Derived.Test.YteblbleehnkcmaaRef28p
namespace Go.Proofs.Yteblbleehnkcmaa
open Go.RowKit Go.Sort
set_option linter.unusedSimpArgs false
set_option linter.unusedVariables false

/-- how many turns of this round a flow had -/
def crN (at_ : Nat) (mid : Bool) (k : Nat) : Int := if k < at_ ∨ (k = at_ ∧ mid = true) then 1 else 0
/-- what went, and what may go still, is as many quanta as turns -/
def FairAt (q r : Int) (fl : List Fl) (at_ : Nat) (mid : Bool) (S : Nat → Int) (k : Nat) : Prop :=
  ∀ (h : k < fl.length), 0 ≤ fl[k].df ∧ fl[k].df ≤ 127 + q * fl[k].wt ∧ (¬(k = at_ ∧ mid = true) → fl[k].df ≤ 127) ∧ S k + fl[k].df = q * fl[k].wt * (r + crN at_ mid k)
def Fair (q : Int) (fl : List Fl) (at_ : Nat) (mid : Bool) (S : Nat → Int) : Prop := ∃ r : Int, ∀ k, FairAt q r fl at_ mid S k
theorem tGo_left (df left : Int) (xs : List Int) (h0 : 0 ≤ df) (hx : ∀ n ∈ xs, 1 ≤ n ∧ n ≤ 128) : (tGo df left xs).1 + (xs.take (tGo df left xs).2.2.1).sum = df ∧ 0 ≤ (tGo df left xs).1 ∧ ((tGo df left xs).2.2.2 = 0 → (tGo df left xs).2.2.1 = xs.length) ∧ ((tGo df left xs).2.2.2 = 1 → (tGo df left xs).1 ≤ 127) ∧ (tGo df left xs).2.2.2 ≤ 2 ∧ (tGo df left xs).1 ≤ df := by
  induction xs generalizing df left with
  | nil => simp [tGo]; omega
  | cons a r ih =>
    have ha := hx a (List.mem_cons_self ..)
    by_cases c1 : df < a
    · rw [tGo, if_pos c1]; simp; omega
    · by_cases c2 : left < a
      · rw [tGo, if_neg c1, if_pos c2]; simp; omega
      · rw [tGo_step c1 c2]
        have := ih (df - a) (left - a) (by omega) (fun n hn => hx n (List.mem_cons_of_mem _ hn))
        dsimp only
        rw [List.take_succ_cons, List.sum_cons, List.length_cons]
        omega
theorem rTurn_fair {df add left : Int} {xs : List Int} (hne : xs ≠ []) (h0 : 0 ≤ df) (ha : 0 ≤ add) (h1 : df + add ≤ 1073741824) (hx : ∀ n ∈ xs, 1 ≤ n ∧ n ≤ 128) (hn : (rTurn df add left xs).n < xs.length) :
    (rTurn df add left xs).df + (xs.take (rTurn df add left xs).n).sum = df + add ∧ 0 ≤ (rTurn df add left xs).df ∧ ((rTurn df add left xs).ends = false → (rTurn df add left xs).df ≤ 127) ∧ (rTurn df add left xs).df ≤ df + add := by
  unfold rTurn at hn ⊢
  rw [if_neg hne] at hn ⊢
  have hm : min (df + add) 1073741824 = df + add := by omega
  rw [hm] at hn ⊢
  obtain ⟨a1, a2, a3, a4, a5, a6⟩ := tGo_left (df + add) left xs (by omega) hx
  dsimp only at hn ⊢
  have hc : (tGo (df + add) left xs).2.2.2 ≠ 0 := fun e => by have := a3 e; omega
  rw [if_neg hc]
  refine ⟨a1, a2, fun e => a4 ?_, a6⟩
  have : (tGo (df + add) left xs).2.2.2 ≠ 2 := by simpa using e
  omega
/-- the bytes of a flow that went -/
def gone (ld : List Ld) (fl : List Fl) (went : List Int) (k : Nat) : Int := ((dWait ld (fl.getD k ⟨0, 0, 0⟩).id).xs.take (went.getD k 0).toNat).sum
theorem gone_le (ld : List Ld) (fl : List Fl) (gs : List Int) (hx : ∀ f ∈ fl, ∀ n ∈ (dWait ld f.id).xs, 1 ≤ n ∧ n ≤ 128) (k : Nat) (h1 : k < fl.length) (h2 : k < gs.length) : gone ld fl gs k ≤ wSum ld fl gs ∧ 0 ≤ wSum ld fl gs := by
  induction fl generalizing gs k with
  | nil => simp at h1
  | cons a fl ih =>
    rcases gs with _ | ⟨b, gs⟩
    · simp at h2
    have hz : ∀ (fl : List Fl) (gs : List Int), (∀ f ∈ fl, ∀ n ∈ (dWait ld f.id).xs, 1 ≤ n ∧ n ≤ 128) → 0 ≤ wSum ld fl gs := by
      intro fl
      induction fl with
      | nil => intro gs _; simp [wSum]
      | cons f r ih2 =>
        intro gs h
        rcases gs with _ | ⟨g, gs⟩
        · simp [wSum]
        · have h1 := ih2 gs (fun f hf => h f (List.mem_cons_of_mem _ hf))
          have h2 := (sum_in (h f (List.mem_cons_self ..)) g.toNat).1
          rw [wSum]; omega
    have h3 := (sum_in (hx a (List.mem_cons_self ..)) b.toNat).1
    have h4 := hz fl gs (fun f hf => hx f (List.mem_cons_of_mem _ hf))
    cases k with
    | zero => unfold gone; rw [wSum]; simp only [List.getD_cons_zero]; omega
    | succ k =>
      have := ih gs (fun f hf => hx f (List.mem_cons_of_mem _ hf)) k (by simpa using h1) (by simpa using h2)
      unfold gone at this ⊢
      rw [wSum]; simp only [List.getD_cons_succ]; omega
theorem sum_ge {xs : List Int} (h : ∀ n ∈ xs, 32 ≤ n) (k : Nat) (hk : k ≤ xs.length) : 32 * (k : Int) ≤ (xs.take k).sum := by
  induction xs generalizing k with
  | nil => simp at hk; subst hk; simp
  | cons a r ih =>
    cases k with
    | zero => simp
    | succ k =>
      have h1 := h a (List.mem_cons_self ..)
      have := ih (fun n hn => h n (List.mem_cons_of_mem _ hn)) k (by simpa using hk)
      rw [List.take_succ_cons, List.sum_cons]
      push_cast
      omega
/-- always something waits -/
def Full (ld : List Ld) (ids : List Int) : Prop := ∀ id ∈ ids, (dWait ld id).xs.length = 64 ∧ ∀ n ∈ (dWait ld id).xs, 32 ≤ n ∧ n ≤ 128
theorem Full.of {ld : List Ld} {ids : List Int} {fl : List Fl} (h : Full ld ids) (hi : fl.map Fl.id = ids) : ∀ f ∈ fl, (dWait ld f.id).xs.length = 64 ∧ ∀ n ∈ (dWait ld f.id).xs, 32 ≤ n ∧ n ≤ 128 := fun f hf => h _ (by rw [← hi]; exact List.mem_map_of_mem hf)
theorem WOk.some {q : Int} {ld : List Ld} {ids : List Int} {total : Int} {s : RS} (h : WOk q ld ids total s) (hF : Full ld ids) (ht : total ≤ 2047) (k : Nat) (h1 : k < s.fl.length) (h2 : k < s.wt.length) (h3 : k < s.went.length) : s.went[k] < 64 ∧ s.wt[k] ≠ [] ∧ gone ld s.fl s.went k ≤ total := by
  have hf := hF.of h.ids
  have hx : ∀ f ∈ s.fl, ∀ n ∈ (dWait ld f.id).xs, 1 ≤ n ∧ n ≤ 128 := fun f hm n hn => by have := (hf f hm).2 n hn; omega
  obtain ⟨g1, _⟩ := gone_le ld s.fl s.went hx k h1 h3
  have hl := h.ok.left.1
  have ha := h.all
  obtain ⟨b1, b2, b3⟩ := h.rel k h1 h2 h3
  obtain ⟨c1, c2⟩ := hf _ (List.getElem_mem h1)
  have hs := sum_ge (fun n hn => (c2 n hn).1) s.went[k].toNat (by omega)
  have hg : gone ld s.fl s.went k = ((dWait ld s.fl[k].id).xs.take s.went[k].toNat).sum := by unfold gone; simp [h1, h3]
  refine ⟨by omega, ?_, by omega⟩
  intro e
  have := congrArg List.length b2
  rw [e, List.length_drop] at this
  simp at this
  omega
theorem cr_at (at_ : Nat) (mid : Bool) : crN at_ mid at_ = if mid = true then 1 else 0 := by unfold crN; simp
theorem cr_ne {at_ k : Nat} {mid mid' : Bool} (h : k ≠ at_) : crN at_ mid k = crN at_ mid' k := by unfold crN; simp [h]
theorem gone_step {q : Int} {ld : List Ld} {s : RS} (h1 : s.at_ < s.fl.length) (h2 : s.at_ < s.wt.length) (h3 : s.at_ < s.went.length) (hrel : Wrel ld s) (R : TR) (k : Nat) :
    gone ld (rNext s s.fl[s.at_] s.wt[s.at_] s.went[s.at_] R).fl (rNext s s.fl[s.at_] s.wt[s.at_] s.went[s.at_] R).went k = gone ld s.fl s.went k + if k = s.at_ then (s.wt[s.at_].take R.n).sum else 0 := by
  obtain ⟨b1, b2, b3⟩ := hrel s.at_ h1 h2 h3
  unfold gone rNext
  dsimp only
  by_cases e : k = s.at_
  · subst e
    have ht : (s.went[s.at_] + (R.n : Nat)).toNat = s.went[s.at_].toNat + R.n := by omega
    rw [if_pos rfl, getD_at' _ _ (by simpa using h3), getD_at' _ _ (by simpa using h1), getD_at' _ _ h1, getD_at' _ _ h3, List.getElem_set_self, List.getElem_set_self, ht, take_add_sum, ← b2]
  · rw [if_neg e, Int.add_zero, List.getD_eq_getElem?_getD, List.getD_eq_getElem?_getD, List.getElem?_set_ne (by omega), List.getElem?_set_ne (by omega), ← List.getD_eq_getElem?_getD, ← List.getD_eq_getElem?_getD]
theorem dNext_fl_len (q : Int) (s : RS) : (dNext q s).fl.length = s.fl.length := (dTurn_at q s).2.2
/-- one turn keeps it fair -/
theorem Fair.turn {q : Int} {ld : List Ld} {ids : List Int} {total : Int} {s : RS} (h : WOk q ld ids total s) (hF : Full ld ids) (ht : total ≤ 2047) (S : Nat → Int) (hf : Fair q s.fl s.at_ s.mid (fun k => S k + gone ld s.fl s.went k)) :
    ((dTurn q s).2 = false → Fair q (dNext q s).fl (dNext q s).at_ (dNext q s).mid (fun k => S k + gone ld (dNext q s).fl (dNext q s).went k)) ∧ Fair q (dEnd q s).fl (dEnd q s).at_ (dEnd q s).mid (fun k => S k + gone ld (dEnd q s).fl (dEnd q s).went k) := by
  have h1 := h.ok.at_
  have h2 : s.at_ < s.wt.length := by rw [h.ok.wt]; exact h1
  have h3 : s.at_ < s.went.length := by rw [h.ok.went]; exact h1
  have hD := dTurn_r h.ok h1 h2 h3
  obtain ⟨_, hne, _⟩ := h.some hF ht s.at_ h1 h2 h3
  obtain ⟨w1, _⟩ := h.turn
  have hn2 := w1.some hF ht s.at_ (by rw [dNext_fl_len]; exact h1) (by rw [w1.ok.wt, dNext_fl_len]; exact h1) (by rw [w1.ok.went, dNext_fl_len]; exact h1)
  have hfl := h.ok.fl _ (List.getElem_mem h1)
  have hadd := rAdd_pos (mid := s.mid) h.ok.q hfl
  have hqw := (rAdd_in (mid := s.mid) h.ok.q hfl).1
  have hG := gone_step (q := q) h1 h2 h3 h.rel
  obtain ⟨r, hr⟩ := hf
  obtain ⟨r1, r2, r3, r4⟩ := hr s.at_ h1
  have hm : s.fl[s.at_].df + rAdd q s.mid s.fl[s.at_] ≤ 127 + q * s.fl[s.at_].wt := by
    unfold rAdd
    cases hmm : s.mid with
    | true => simp; omega
    | false => have := r3 (by simp [hmm]); simp; omega
  have hsz := (h.ok.size _ (List.getElem_mem h2)).2
  have hwl : (rTurn s.fl[s.at_].df (rAdd q s.mid s.fl[s.at_]) s.left s.wt[s.at_]).n < s.wt[s.at_].length := by
    have := hn2.2.1
    unfold dNext at this
    rw [List.getElem_of_eq (congrArg RS.wt (congrArg Prod.fst hD))] at this
    unfold rNext at this
    dsimp only at this
    rw [List.getElem_set_self] at this
    apply Classical.byContradiction
    intro hc
    exact this (List.drop_eq_nil_of_le (by omega))
  have hT := rTurn_fair hne hfl.1 hadd.1 (by have := rAdd_in (mid := s.mid) h.ok.q hfl; omega) hsz hwl
  have hsum : S s.at_ + gone ld s.fl s.went s.at_ + (s.fl[s.at_].df + rAdd q s.mid s.fl[s.at_]) = q * s.fl[s.at_].wt * (r + 1) := by
    dsimp only at r4
    rw [cr_at] at r4
    unfold rAdd
    cases hmm : s.mid with
    | true => rw [hmm] at r4; simp at r4 ⊢; omega
    | false => rw [hmm] at r4; simp at r4 ⊢; rw [Int.mul_add]; omega
  have key : ∀ (R : TR) (k : Nat), k ≠ s.at_ → ∀ (hk : k < (rNext s s.fl[s.at_] s.wt[s.at_] s.went[s.at_] R).fl.length), ∃ hk' : k < s.fl.length, (rNext s s.fl[s.at_] s.wt[s.at_] s.went[s.at_] R).fl[k] = s.fl[k] := fun R k hne hk => by
    unfold rNext at hk ⊢
    dsimp only at hk ⊢
    rw [List.length_set] at hk
    exact ⟨hk, by rw [List.getElem_set_ne (by omega)]⟩
  have kat : ∀ (R : TR) (hk : s.at_ < (rNext s s.fl[s.at_] s.wt[s.at_] s.went[s.at_] R).fl.length), (rNext s s.fl[s.at_] s.wt[s.at_] s.went[s.at_] R).fl[s.at_] = ⟨s.fl[s.at_].id, s.fl[s.at_].wt, R.df⟩ := fun R hk => by
    exact List.getElem_set_self (l := s.fl) (i := s.at_) (a := ⟨s.fl[s.at_].id, s.fl[s.at_].wt, R.df⟩) (by rw [List.length_set]; exact h1)
  constructor
  · intro he
    rw [hD] at he
    have hle := hT.2.2.1 he
    unfold dNext
    rw [hD]
    generalize rTurn s.fl[s.at_].df (rAdd q s.mid s.fl[s.at_]) s.left s.wt[s.at_] = R at *
    by_cases hl : s.at_ + 1 < s.fl.length
    · refine ⟨r, fun k hk => ?_⟩
      dsimp only at hk ⊢
      rw [hG, Nat.mod_eq_of_lt hl]
      by_cases e : k = s.at_
      · subst e
        rw [kat R hk, if_pos rfl]
        dsimp only
        have hc : crN (s.at_ + 1) false s.at_ = 1 := by unfold crN; simp
        rw [hc]
        refine ⟨hT.2.1, by omega, fun _ => hle, by omega⟩
      · obtain ⟨hk', e2⟩ := key R k e hk
        obtain ⟨p1, p2, p3, p4⟩ := hr k hk'
        rw [e2, if_neg e]
        have hc : crN (s.at_ + 1) false k = crN s.at_ s.mid k := by
          unfold crN
          by_cases hlt : k < s.at_
          · rw [if_pos (.inl (by omega)), if_pos (.inl hlt)]
          · rw [if_neg (by simp; omega), if_neg (by simp [e]; omega)]
        rw [hc]
        exact ⟨p1, p2, fun _ => p3 (by simp [e]), by rw [Int.add_zero]; exact p4⟩
    · have hl2 : s.at_ + 1 = s.fl.length := by omega
      refine ⟨r + 1, fun k hk => ?_⟩
      dsimp only at hk ⊢
      rw [hG, hl2, Nat.mod_self]
      have hc0 : crN 0 false k = 0 := by unfold crN; simp
      rw [hc0, Int.add_zero]
      by_cases e : k = s.at_
      · subst e
        rw [kat R hk, if_pos rfl]
        dsimp only
        refine ⟨hT.2.1, by omega, fun _ => hle, by omega⟩
      · obtain ⟨hk', e2⟩ := key R k e hk
        obtain ⟨p1, p2, p3, p4⟩ := hr k hk'
        rw [e2, if_neg e]
        have hc : crN s.at_ s.mid k = 1 := by unfold crN; rw [if_pos (.inl (by omega))]
        rw [hc] at p4
        exact ⟨p1, p2, fun _ => p3 (by simp [e]), by rw [Int.add_zero]; exact p4⟩
  · unfold dEnd
    rw [hD]
    generalize rTurn s.fl[s.at_].df (rAdd q s.mid s.fl[s.at_]) s.left s.wt[s.at_] = R at *
    have eat : (rNext s s.fl[s.at_] s.wt[s.at_] s.went[s.at_] R).at_ = s.at_ := rfl
    refine ⟨r, fun k hk => ?_⟩
    dsimp only at hk ⊢
    rw [hG, eat]
    by_cases e : k = s.at_
    · subst e
      rw [kat R hk, if_pos rfl]
      dsimp only
      have hc : crN s.at_ true s.at_ = 1 := by unfold crN; simp
      rw [hc]
      refine ⟨hT.2.1, by omega, fun hx => absurd ⟨rfl, rfl⟩ hx, by omega⟩
    · obtain ⟨hk', e2⟩ := key R k e hk
      obtain ⟨p1, p2, p3, p4⟩ := hr k hk'
      rw [e2, if_neg e, cr_ne (mid' := s.mid) e]
      exact ⟨p1, p2, fun _ => p3 (by simp [e]), by rw [Int.add_zero]; exact p4⟩
end Go.Proofs.Yteblbleehnkcmaa
