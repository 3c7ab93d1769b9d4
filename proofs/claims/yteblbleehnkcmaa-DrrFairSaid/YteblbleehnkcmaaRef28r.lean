/- The plain law of DrrFair: all of Serve, and what is near. -/
import Derived.Test.YteblbleehnkcmaaRef28q
namespace Go.Proofs.Yteblbleehnkcmaa
open Go.RowKit Go.Sort
set_option linter.unusedSimpArgs false
set_option linter.unusedVariables false

theorem dTurn_wts (q : Int) (s : RS) (h : s.at_ < s.fl.length) : (dTurn q s).1.fl.map Fl.wt = s.fl.map Fl.wt := by
  have key : ∀ d, (s.fl.set s.at_ ⟨(s.fl.getD s.at_ ⟨0, 0, 0⟩).id, (s.fl.getD s.at_ ⟨0, 0, 0⟩).wt, d⟩).map Fl.wt = s.fl.map Fl.wt := fun d => by
    rw [List.map_set, getD_at' _ _ h]
    apply List.ext_getElem (by simp)
    intro j hj1 hj2
    rw [List.getElem_set]
    split
    · rename_i e; subst e; simp
    · rfl
  unfold dTurn; dsimp only; split <;> exact key _
theorem dLoop_fair {q : Int} {ld : List Ld} {ids : List Int} {total : Int} (hF : Full ld ids) (ht : total ≤ 2047) (S : Nat → Int) : ∀ (n : Nat) {s : RS}, WOk q ld ids total s → Fair q s.fl s.at_ s.mid (fun k => S k + gone ld s.fl s.went k) →
    Fair q (dLoop q n s).fl (dLoop q n s).at_ (dLoop q n s).mid (fun k => S k + gone ld (dLoop q n s).fl (dLoop q n s).went k) ∧ (dLoop q n s).fl.map Fl.wt = s.fl.map Fl.wt := by
  intro n
  induction n with
  | zero => intro s _ h; exact ⟨h, rfl⟩
  | succ n ih =>
    intro s hs hf
    have hw := dTurn_wts q s hs.ok.at_
    rw [dLoop]
    split
    · exact ⟨hf, rfl⟩
    · obtain ⟨f1, f2⟩ := Fair.turn hs hF ht S hf
      split
      · exact ⟨f2, hw⟩
      · rename_i he
        obtain ⟨i1, i2⟩ := ih hs.turn.1 (f1 (by simpa using he))
        exact ⟨i1, i2.trans hw⟩
/-- what a Serve of those who always have something that waits leaves -/
structure Fairs (ld : List Ld) (l : List Fl) (t : Int) (S : Nat → Int) (R : SR) : Prop where
  e : R.e = 0
  fl : R.fl.length = l.length
  went : R.went.length = l.length
  check : dCheck R.fl R.at_ R.mid = 0
  ids : R.fl.map Fl.id = l.map Fl.id
  wts : R.fl.map Fl.wt = l.map Fl.wt
  each : ∀ k (h : k < R.went.length), 0 ≤ R.went[k] ∧ R.went[k] < 64
  sent : ∀ k, k < l.length → 0 ≤ gone ld R.fl R.went k ∧ gone ld R.fl R.went k ≤ t
  fair : Fair 256 R.fl R.at_.toNat R.mid (fun k => S k + gone ld R.fl R.went k)
theorem dServe_fair {l : List Fl} {at_ : Int} {mid : Bool} {t : Int} {ld : List Ld} (S : Nat → Int) (h1 : dCheck l at_ mid = 0) (h2 : dMay 256 t ld = 0) (ht : t ≤ 2047) (hF : Full ld (l.map Fl.id)) (hf : Fair 256 l at_.toNat mid S) : Fairs ld l t S (dServe l at_ mid 256 t ld) := by
  have h0 : (dServe l at_ mid 256 t ld).e = 0 := by
    unfold dServe; rw [if_neg (by simpa using h1), if_neg (by simpa using h2)]; rfl
  have hW := dServe_works h0
  obtain ⟨a1, a2, a3, a4, a5, a6⟩ := dCheck_ok h1
  obtain ⟨b1, b2, b3⟩ := dMay_ok h2
  have hS : dServe l at_ mid 256 t ld = (dLoop 256 (dMu (dBegin l at_.toNat mid t ld) + 1) (dBegin l at_.toNat mid t ld)).sr := by
    unfold dServe; rw [if_neg (by simpa using h1), if_neg (by simpa using h2)]
  have hg0 : ∀ k, gone ld l (List.replicate l.length 0) k = 0 := fun k => by
    have : (List.replicate l.length (0 : Int)).getD k 0 = 0 := by
      rw [List.getD_eq_getElem?_getD, List.getElem?_replicate]; split <;> rfl
    unfold Go.Proofs.Yteblbleehnkcmaa.gone; rw [this]; simp
  by_cases hn : l = []
  · subst hn
    refine ⟨h0, hW.fl, hW.went, hW.check, ?_, ?_, ?_, ?_, ?_⟩
    · have := hW.fl; have := List.eq_nil_of_length_eq_zero this; rw [this]
    · have := hW.fl; have := List.eq_nil_of_length_eq_zero this; rw [this]
    · intro k h; have := hW.went; rw [this] at h; exact absurd h (Nat.not_lt_zero _)
    · intro k h; exact absurd h (Nat.not_lt_zero _)
    · refine ⟨0, fun k h => ?_⟩
      have := hW.fl; rw [this] at h; exact absurd h (Nat.not_lt_zero _)
  · have hpos : 0 < l.length := List.length_pos_iff.2 hn
    have hne : dOp (dBegin l at_.toNat mid t ld).wt ≠ 0 := fun e => by
      have hm := dOp_zero.1 e (dWait ld l[0].id).xs (by unfold dBegin; exact List.mem_map.2 ⟨l[0], List.getElem_mem hpos, rfl⟩)
      have := (hF _ (List.mem_map_of_mem (List.getElem_mem hpos))).1
      rw [hm] at this; cases this
    have hB : RsOk 256 (dBegin l at_.toNat mid t ld) ∧ RsSum (dBegin l at_.toNat mid t ld) := (dBegin_ok h1 h2).resolve_left hne
    have hW0 : WOk 256 ld (l.map Fl.id) t (dBegin l at_.toNat mid t ld) := ⟨hB.1, hB.2, Wrel.begin _ _ _ _ _, rfl, by show wSum ld l (List.replicate l.length 0) + t = t; rw [wSum_begin]; omega⟩
    have hf0 : Fair 256 (dBegin l at_.toNat mid t ld).fl (dBegin l at_.toNat mid t ld).at_ (dBegin l at_.toNat mid t ld).mid (fun k => S k + gone ld (dBegin l at_.toNat mid t ld).fl (dBegin l at_.toNat mid t ld).went k) := by
      obtain ⟨r, hr⟩ := hf
      refine ⟨r, fun k h => ?_⟩
      have := hr k h
      show 0 ≤ l[k].df ∧ l[k].df ≤ 127 + 256 * l[k].wt ∧ _ ∧ S k + gone ld l (List.replicate l.length 0) k + l[k].df = _
      rw [hg0, Int.add_zero]; exact this
    obtain ⟨c1, _⟩ := dLoop_works (dMu (dBegin l at_.toNat mid t ld) + 1) hW0 (Nat.lt_succ_self _)
    obtain ⟨d1, d2⟩ := dLoop_fair hF ht S (dMu (dBegin l at_.toNat mid t ld) + 1) hW0 hf0
    rw [hS] at hW h0 ⊢
    generalize dLoop 256 (dMu (dBegin l at_.toNat mid t ld) + 1) (dBegin l at_.toNat mid t ld) = e at *
    have hlf : e.fl.length = l.length := hW.fl
    have hlg : e.went.length = l.length := hW.went
    have hx : ∀ f ∈ e.fl, ∀ n ∈ (dWait ld f.id).xs, 1 ≤ n ∧ n ≤ 128 := fun f hm n hn => by have := (hF.of c1.ids f hm).2 n hn; omega
    refine ⟨h0, hlf, hlg, hW.check, c1.ids, d2, ?_, ?_, d1⟩
    · intro k h
      have h : k < e.went.length := h
      have k1 : k < e.fl.length := by omega
      have k2 : k < e.wt.length := by rw [c1.ok.wt]; exact k1
      have := (c1.some hF ht k k1 k2 h).1
      have := (hW.each k k1 h).1
      exact ⟨by assumption, by assumption⟩
    · intro k h
      have k1 : k < e.fl.length := by omega
      have k3 : k < e.went.length := by omega
      have k2 : k < e.wt.length := by rw [c1.ok.wt]; exact k1
      refine ⟨?_, (c1.some hF ht k k1 k2 k3).2.2⟩
      show 0 ≤ gone ld e.fl e.went k
      have hg : gone ld e.fl e.went k = ((dWait ld e.fl[k].id).xs.take e.went[k].toNat).sum := by unfold Go.Proofs.Yteblbleehnkcmaa.gone; simp [k1, k3]
      rw [hg]
      exact (sum_in (hx _ (List.getElem_mem k1)) _).1
/-- what is fair is near -/
theorem Fair.near {fl : List Fl} {at_ : Nat} {mid : Bool} {S : Nat → Int} (h : Fair 256 fl at_ mid S) (hw : ∀ f ∈ fl, 1 ≤ f.wt ∧ f.wt ≤ 8) (hS : ∀ k, k < fl.length → 0 ≤ S k ∧ S k ≤ 1000000) (i j : Nat) (hi : i < fl.length) (hj : j < fl.length) : dNear 256 (S i) fl[i].wt (S j) fl[j].wt = true := by
  obtain ⟨r, hr⟩ := h
  obtain ⟨i1, i2, _, i4⟩ := hr i hi
  obtain ⟨j1, j2, _, j4⟩ := hr j hj
  have wi := hw _ (List.getElem_mem hi)
  have wj := hw _ (List.getElem_mem hj)
  have si := hS i hi
  have sj := hS j hj
  have ci : 0 ≤ crN at_ mid i ∧ crN at_ mid i ≤ 1 := by unfold crN; split <;> omega
  have cj : 0 ≤ crN at_ mid j ∧ crN at_ mid j ≤ 1 := by unfold crN; split <;> omega
  generalize crN at_ mid i = a at *
  generalize crN at_ mid j = b at *
  generalize fl[i].df = di at *
  generalize fl[j].df = dj at *
  generalize fl[i].wt = u at *
  generalize fl[j].wt = v at *
  generalize S i = x at *
  generalize S j = y at *
  unfold dNear
  rw [if_neg (by simp [dIn]), if_neg (by simp [dIn]; omega), if_neg (by simp [dIn]; omega)]
  have e1 : x = 256 * u * (r + a) - di := by omega
  have e2 : y = 256 * v * (r + b) - dj := by omega
  have m1 : 1 * 1 ≤ u * v := Int.mul_le_mul wi.1 wj.1 (by omega) (by omega)
  have p1 : u * 1 ≤ u * v := Int.mul_le_mul_of_nonneg_left wj.1 (by omega)
  have p2 : 1 * v ≤ u * v := Int.mul_le_mul_of_nonneg_right wi.1 (by omega)
  have q1 : di * v ≤ (127 + 256 * u) * v := Int.mul_le_mul_of_nonneg_right i2 (by omega)
  have q2 : 0 ≤ di * v := Int.mul_nonneg i1 (by omega)
  have q3 : dj * u ≤ (127 + 256 * v) * u := Int.mul_le_mul_of_nonneg_right j2 (by omega)
  have q4 : 0 ≤ dj * u := Int.mul_nonneg j1 (by omega)
  have t1 : (127 + 256 * u) * v = 127 * v + 256 * (u * v) := by rw [Int.add_mul, Int.mul_assoc]
  have t2 : (127 + 256 * v) * u = 127 * u + 256 * (u * v) := by rw [Int.add_mul, Int.mul_assoc, Int.mul_comm v u]
  have hxv : x * v = 256 * (u * v) * r + 256 * (u * v) * a - di * v := by
    rw [e1, Int.sub_mul, Int.mul_add, Int.add_mul]
    have h1 : 256 * u * r * v = 256 * (u * v) * r := by rw [Int.mul_right_comm, Int.mul_assoc 256 u v]
    have h2 : 256 * u * a * v = 256 * (u * v) * a := by rw [Int.mul_right_comm, Int.mul_assoc 256 u v]
    rw [h1, h2]
  have hyu : y * u = 256 * (u * v) * r + 256 * (u * v) * b - dj * u := by
    rw [e2, Int.sub_mul, Int.mul_add, Int.add_mul]
    have h1 : 256 * v * r * u = 256 * (u * v) * r := by rw [Int.mul_right_comm, Int.mul_assoc 256 v u, Int.mul_comm v u]
    have h2 : 256 * v * b * u = 256 * (u * v) * b := by rw [Int.mul_right_comm, Int.mul_assoc 256 v u, Int.mul_comm v u]
    rw [h1, h2]
  have hA : 3 * 256 * u * v = 768 * (u * v) := by rw [Int.mul_assoc (3 * 256) u v, show (3 * 256 : Int) = 768 from rfl]
  have ha1 : 0 ≤ 256 * (u * v) * a := Int.mul_nonneg (by omega) ci.1
  have ha2 : 256 * (u * v) * a ≤ 256 * (u * v) * 1 := Int.mul_le_mul_of_nonneg_left ci.2 (by omega)
  have hb1 : 0 ≤ 256 * (u * v) * b := Int.mul_nonneg (by omega) cj.1
  have hb2 : 256 * (u * v) * b ≤ 256 * (u * v) * 1 := Int.mul_le_mul_of_nonneg_left cj.2 (by omega)
  rw [hA, hxv, hyu]
  generalize 256 * (u * v) * r = R at *
  generalize 256 * (u * v) * a = RA at *
  generalize 256 * (u * v) * b = RB at *
  generalize u * v = A at *
  generalize di * v = D1 at *
  generalize dj * u = D2 at *
  rw [decide_eq_true (p := _ < _) (by omega), decide_eq_true (p := _ < _) (by omega)]
  rfl
theorem Fair.begin (q : Int) (l : List Fl) (h : ∀ f ∈ l, f.df = 0 ∧ 1 ≤ f.wt) (hq : 0 ≤ q) : Fair q l 0 false (fun _ => 0) := by
  refine ⟨0, fun k hk => ?_⟩
  obtain ⟨h1, h2⟩ := h _ (List.getElem_mem hk)
  have : 0 ≤ q * l[k].wt := Int.mul_nonneg hq (by omega)
  have hc : crN 0 false k = 0 := by unfold crN; simp
  rw [h1, hc]
  refine ⟨by omega, by omega, fun _ => by omega, by simp⟩
end Go.Proofs.Yteblbleehnkcmaa
