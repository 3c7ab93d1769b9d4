/- The plain law of DrrWorks: what Serve's answer is. -/
import Derived.Test.YteblbleehnkcmaaRef28o
namespace Go.Proofs.Yteblbleehnkcmaa
open Go.RowKit Go.Sort
set_option linter.unusedSimpArgs false
set_option linter.unusedVariables false

theorem dFind_map (l : List Fl) (id : Int) : dFind l id = idxI (fun x => x == id) (l.map Fl.id) := by
  unfold dFind idxI
  rw [List.any_map, List.findIdx_map]
  rfl
theorem dOnce_ids {l m : List Fl} (h : l.map Fl.id = m.map Fl.id) : dOnce l = dOnce m := by
  have hl : l.length = m.length := by have := congrArg List.length h; simpa using this
  unfold dOnce
  rw [hl]
  have hf : ∀ id, dFind l id = dFind m id := fun id => by rw [dFind_map, dFind_map, h]
  apply Bool.eq_iff_iff.2
  simp only [List.all_eq_true, List.mem_range]
  have hg : ∀ i, i < m.length → (l.getD i default).id = (m.getD i default).id := fun i hi => by
    have hi' : i < l.length := by omega
    have := congrArg (fun x => x[i]?) h
    simp only [List.getElem?_map] at this
    rw [getD_at' _ _ hi', getD_at' _ _ hi]
    simpa [hi, hi'] using this
  constructor
  · intro a i hi
    have := a i hi
    rwa [hg i hi, hf] at this
  · intro a i hi
    have := a i hi
    rwa [hg i hi, hf]
theorem any_wrong_ids {l m : List Fl} (h : l.map Fl.id = m.map Fl.id) (hm : m.any fWrong = false) (hb : ∀ f ∈ l, 0 ≤ f.df ∧ f.df ≤ 1073741824 ∧ 1 ≤ f.wt ∧ f.wt ≤ 8) : l.any fWrong = false := by
  rw [List.any_eq_false]
  intro f hf
  have h1 : f.id ∈ l.map Fl.id := List.mem_map_of_mem hf
  rw [h] at h1
  obtain ⟨g, hg, e⟩ := List.mem_map.1 h1
  have h2 : fWrong g = false := by have := List.any_eq_false.1 hm g hg; simpa using this
  have h3 := fWrong_f h2
  have h4 := hb f hf
  simp [fWrong, dIn]
  omega
/-- a state that Serve leaves may be -/
theorem dCheck_end {l m : List Fl} {at_ : Nat} {mid : Bool} (h : l.map Fl.id = m.map Fl.id) (hm : m.any fWrong = false) (hm2 : dOnce m = true) (hm3 : m.length ≤ 16) (hb : ∀ f ∈ l, 0 ≤ f.df ∧ f.df ≤ 1073741824 ∧ 1 ≤ f.wt ∧ f.wt ≤ 8) (hat : at_ < l.length) : dCheck l at_ mid = 0 := by
  have hl : l.length = m.length := by have := congrArg List.length h; simpa using this
  unfold dCheck
  rw [if_neg (by omega), any_wrong_ids h hm hb, dOnce_ids h, hm2]
  have hp : dPlace l.length at_ mid = true := by
    unfold dPlace dIn
    rw [decide_eq_false (p := l.length = 0) (by omega)]
    simp
    omega
  rw [hp]
  simp
theorem dLeft_at {ld : List Ld} {id : Int} {g : Int} {x : List Int} (h0 : 0 ≤ g) (hx : x = (dWait ld id).xs.drop g.toNat) (hg : g ≤ ((dWait ld id).xs.length : Nat)) : (dLeft ld id g).2 = decide (x ≠ []) ∧ ∀ z r, x = z :: r → dLeft ld id g = (z, true) := by
  obtain ⟨n, rfl⟩ : ∃ n : Nat, g = n := ⟨g.toNat, by omega⟩
  have hn : ((n : Int)).toNat = n := rfl
  rw [hn] at hx
  unfold dLeft
  by_cases h : n < (dWait ld id).xs.length
  · rw [if_pos ⟨h0, by omega⟩, hn]
    have hd := List.drop_eq_getElem_cons h
    refine ⟨?_, fun z r e => ?_⟩
    · rw [hx, hd]; simp; exact h
    · rw [hx, hd] at e
      injection e with e1 e2
      rw [← e1]
      simp [h]
  · rw [if_neg (by omega)]
    have hd : x = [] := by rw [hx]; exact List.drop_eq_nil_of_le (by omega)
    refine ⟨by rw [hd]; rfl, fun z r e => ?_⟩
    rw [hd] at e; cases e
/-- what waits still, of any flow -/
def wAny (ld : List Ld) (fl : List Fl) (went : List Int) : Bool := (List.range fl.length).any fun i => (dLeft ld (fl.getD i ⟨0, 0, 0⟩).id (went.getD i 0)).2
structure Works (ld : List Ld) (l : List Fl) (mid : Bool) (t : Int) (R : SR) : Prop where
  fl : R.fl.length = l.length
  went : R.went.length = l.length
  check : dCheck R.fl R.at_ R.mid = 0
  each : ∀ i (h1 : i < R.fl.length) (h2 : i < R.went.length), 0 ≤ R.went[i] ∧ R.went[i] ≤ ((dWait ld R.fl[i].id).xs.length : Nat)
  sum : wSum ld R.fl R.went ≤ t
  sizes : ∀ x ∈ ld, ∀ n ∈ x.xs, 1 ≤ n ∧ n ≤ 128
  ends : (wAny ld R.fl R.went = false ∧ (R.mid = true → mid = true ∧ 0 < l.length)) ∨ (wAny ld R.fl R.went = true ∧ R.mid = true ∧ ∃ i z, ∃ (h1 : i < R.fl.length) (h2 : i < R.went.length), R.at_ = (i : Nat) ∧ dLeft ld R.fl[i].id R.went[i] = (z, true) ∧ t - wSum ld R.fl R.went < z ∧ z ≤ R.fl[i].df)
theorem wAny_op {ld : List Ld} {s : RS} (hw : s.wt.length = s.fl.length) (hg : s.went.length = s.fl.length) (h : Wrel ld s) : wAny ld s.fl s.went = !decide (dOp s.wt = 0) := by
  have key : ∀ i (h1 : i < s.fl.length), (dLeft ld (s.fl.getD i ⟨0, 0, 0⟩).id (s.went.getD i 0)).2 = decide (s.wt.getD i [] ≠ []) := fun i h1 => by
    obtain ⟨a, b, c⟩ := h i h1 (by omega) (by omega)
    have := (dLeft_at a b c).1
    rw [getD_at' _ _ h1, getD_at' _ _ (show i < s.went.length by omega), getD_at' _ _ (show i < s.wt.length by omega)]
    exact this
  unfold wAny
  by_cases ho : dOp s.wt = 0
  · rw [decide_eq_true ho]
    show _ = false
    rw [List.any_eq_false]
    intro i hi
    have h1 := List.mem_range.1 hi
    rw [key i h1]
    have := dOp_zero.1 ho (s.wt.getD i []) (by rw [getD_at' _ _ (show i < s.wt.length by omega)]; exact List.getElem_mem _)
    rw [this]; simp
  · rw [decide_eq_false ho]
    show _ = true
    rw [List.any_eq_true]
    apply Classical.byContradiction
    intro hno
    apply ho
    apply dOp_zero.2
    intro x hx
    obtain ⟨i, hi, rfl⟩ := List.getElem_of_mem hx
    apply Classical.byContradiction
    intro hne
    refine hno ⟨i, List.mem_range.2 (by omega), ?_⟩
    rw [key i (by omega), getD_at' _ _ hi]
    simpa using hne
theorem dServe_works {l : List Fl} {at_ : Int} {mid : Bool} {q t : Int} {ld : List Ld} (h : (dServe l at_ mid q t ld).e = 0) : Works ld l mid t (dServe l at_ mid q t ld) := by
  have h1 : dCheck l at_ mid = 0 := by
    apply Classical.byContradiction; intro hc
    unfold dServe at h; rw [if_pos hc] at h; exact hc h
  have h2 : dMay q t ld = 0 := by
    apply Classical.byContradiction; intro hc
    unfold dServe at h; rw [if_neg (by simpa using h1), if_pos hc] at h; exact hc h
  obtain ⟨a1, a2, a3, a4, a5, a6⟩ := dCheck_ok h1
  obtain ⟨b1, b2, b3⟩ := dMay_ok h2
  have hS : dServe l at_ mid q t ld = (dLoop q (dMu (dBegin l at_.toNat mid t ld) + 1) (dBegin l at_.toNat mid t ld)).sr := by
    unfold dServe; rw [if_neg (by simpa using h1), if_neg (by simpa using h2)]
  rw [hS]
  by_cases hn : l = []
  · subst hn
    have hz : dLoop q (dMu (dBegin [] at_.toNat mid t ld) + 1) (dBegin [] at_.toNat mid t ld) = dBegin [] at_.toNat mid t ld := by rw [dLoop]; rfl
    rw [hz]
    have hm := a6 rfl
    have hat : (at_.toNat : Int) = at_ := by omega
    refine ⟨rfl, rfl, ?_, ?_, ?_, fun x hx => (b3 x hx).2, .inl ⟨rfl, ?_⟩⟩
    · show dCheck [] (at_.toNat : Int) mid = 0
      rw [hat]; exact h1
    · intro i hi; exact absurd hi (Nat.not_lt_zero _)
    · show (0 : Int) ≤ t; omega
    · intro e
      have : mid = true := e
      rw [hm] at this; cases this
  · have hpos : 0 < l.length := List.length_pos_iff.2 hn
    have hB : RsOk q (dBegin l at_.toNat mid t ld) ∧ RsSum (dBegin l at_.toNat mid t ld) := by
      rcases dBegin_ok h1 h2 with h0 | h0
      · refine ⟨⟨by show l.length ≤ 1000; omega, by show at_.toNat < l.length; omega, by simp [dBegin], by simp [dBegin], b1, b2, ?_, ?_, ?_⟩, ?_⟩
        · intro f hf
          have : fWrong f = false := by have := List.any_eq_false.1 a2 f hf; simpa using this
          have := fWrong_f this
          omega
        · intro x hx
          have := dOp_zero.1 h0 x hx
          subst this; simp
        · intro n hn'
          have : n = 0 := (List.mem_replicate.1 hn').2
          omega
        · intro i h h'
          have e : (dBegin l at_.toNat mid t ld).went[i] = 0 := by simp [dBegin]
          have e2 := dOp_zero.1 h0 _ (List.getElem_mem h)
          rw [e, e2]; simp
      · exact h0
    have hW : WOk q ld (l.map Fl.id) t (dBegin l at_.toNat mid t ld) := ⟨hB.1, hB.2, Wrel.begin _ _ _ _ _, rfl, by show wSum ld l (List.replicate l.length 0) + t = t; rw [wSum_begin]; omega⟩
    obtain ⟨c1, c2⟩ := dLoop_works (dMu (dBegin l at_.toNat mid t ld) + 1) hW (Nat.lt_succ_self _)
    have hlen := dLoop_len (q := q) (dMu (dBegin l at_.toNat mid t ld) + 1) (dBegin l at_.toNat mid t ld)
    generalize hE : dLoop q (dMu (dBegin l at_.toNat mid t ld) + 1) (dBegin l at_.toNat mid t ld) = e at *
    obtain ⟨d1, d2, d3, d4, d5⟩ := c1
    have hw := d1.wt
    have hg := d1.went
    have hA := wAny_op hw hg d3
    have hfl : e.fl.length = l.length := hlen.1
    refine ⟨hfl, by show e.went.length = l.length; omega, dCheck_end d4 a2 a3 a1 d1.fl d1.at_, ?_, ?_, fun x hx => (b3 x hx).2, ?_⟩
    · intro i i1 i2
      obtain ⟨x1, _, x3⟩ := d3 i i1 (by show i < e.wt.length; rw [hw]; exact i1) i2
      exact ⟨x1, x3⟩
    · show wSum ld e.fl e.went ≤ t
      have := d1.left.1; omega
    · rcases c2 with ⟨ho, hm⟩ | ⟨hm, z, r, z1, z2, z3⟩
      · refine .inl ⟨by show wAny ld e.fl e.went = false; rw [hA, decide_eq_true ho]; rfl, fun hmm => ⟨?_, hpos⟩⟩
        have hmm : e.mid = true := hmm
        rcases hm with hm | hm
        · rw [hm] at hmm; exact hmm
        · rw [hm] at hmm; cases hmm
      · have i1 := d1.at_
        have i2 : e.at_ < e.wt.length := by omega
        have i3 : e.at_ < e.went.length := by omega
        rw [List.getElem?_eq_getElem i2] at z1
        injection z1 with z1
        rw [List.getElem?_eq_getElem i1] at z3
        obtain ⟨x1, x2, x3⟩ := d3 e.at_ i1 i2 i3
        have hne : dOp e.wt ≠ 0 := fun h0 => by
          have := dOp_zero.1 h0 _ (List.getElem_mem i2)
          rw [z1] at this; cases this
        refine .inr ⟨by show wAny ld e.fl e.went = true; rw [hA, decide_eq_false hne]; rfl, hm, e.at_, z, i1, i3, rfl, (dLeft_at x1 x2 x3).2 z r z1, ?_, ?_⟩
        · show t - wSum ld e.fl e.went < z
          omega
        · have z4 : z ≤ e.fl[e.at_].df := by simpa using z3
          exact z4
theorem wSum_snoc (ld : List Ld) (fl : List Fl) (gs : List Int) (k : Nat) (h1 : k < fl.length) (h2 : k < gs.length) : wSum ld (fl.take (k + 1)) (gs.take (k + 1)) = wSum ld (fl.take k) (gs.take k) + ((dWait ld fl[k].id).xs.take gs[k].toNat).sum := by
  induction fl generalizing gs k with
  | nil => simp at h1
  | cons a fl ih =>
    rcases gs with _ | ⟨b, gs⟩
    · simp at h2
    cases k with
    | zero => simp [wSum]
    | succ k =>
      have := ih gs k (by simpa using h1) (by simpa using h2)
      simp only [List.take_succ_cons, List.getElem_cons_succ, wSum] at *
      omega
def wPre (ld : List Ld) (fl : List Fl) (went : List Int) (k : Nat) : Bool := (List.range k).any fun i => (dLeft ld (fl.getD i ⟨0, 0, 0⟩).id (went.getD i 0)).2
theorem wPre_snoc (ld : List Ld) (fl : List Fl) (gs : List Int) (k : Nat) (h1 : k < fl.length) (h2 : k < gs.length) : wPre ld fl gs (k + 1) = (wPre ld fl gs k || (dLeft ld fl[k].id gs[k]).2) := by
  unfold wPre
  rw [List.range_succ, List.any_append]
  simp [h1, h2]
theorem sum_in {xs : List Int} (h : ∀ n ∈ xs, 1 ≤ n ∧ n ≤ 128) (k : Nat) : 0 ≤ (xs.take k).sum ∧ (xs.take k).sum ≤ 128 * (k : Int) := by
  induction xs generalizing k with
  | nil => simp; omega
  | cons a r ih =>
    cases k with
    | zero => simp
    | succ k =>
      have h1 := h a (List.mem_cons_self ..)
      have := ih (fun n hn => h n (List.mem_cons_of_mem _ hn)) k
      rw [List.take_succ_cons, List.sum_cons]
      push_cast
      omega
theorem sum_snoc {xs : List Int} {k : Nat} (h : k < xs.length) : (xs.take (k + 1)).sum = (xs.take k).sum + xs[k] := by
  rw [take_snocL xs k h, List.sum_append]; simp
theorem dWait_sizes {ld : List Ld} (h : ∀ x ∈ ld, ∀ n ∈ x.xs, 1 ≤ n ∧ n ≤ 128) (id : Int) : ∀ n ∈ (dWait ld id).xs, 1 ≤ n ∧ n ≤ 128 := by
  rcases dWait_mem ld id with e | e
  · rw [e]; simp
  · exact h _ e
end Go.Proofs.Yteblbleehnkcmaa
