/- Plain laws of pool: many acts. No program in sight. -/
import Derived.Test.YtnmpighdkdffbaaPoolQ
namespace Go.Proofs.Ytnmpighdkdffbaa
set_option linter.unusedSimpArgs false
set_option linter.unusedVariables false

abbrev cAt (l : List Cl) (q : Nat) : Cl := l.getD q default
structure Once (n i : Nat) (l : List Cl) (f hs vs al : List Int) (qs : List Nat) : Prop where
  ok : Ok l f
  len : l.length = n
  gen : ∀ x ∈ l, x.gen ≤ i
  nd : qs.Nodup
  live : ∀ q ∈ qs, q < l.length ∧ (cAt l q).live = true
  cnt : qs.length = l.countP (·.live)
  hs : hs = qs.map fun (q : Nat) => (cAt l q).gen * 64 + (q : Int)
  vs : vs = qs.map fun (q : Nat) => (cAt l q).val
  all : ∀ a ∈ al, ∃ (q : Nat) (g : Int), q < l.length ∧ a = g * 64 + q ∧ g ≤ (cAt l q).gen ∧ ((cAt l q).live = false → g < (cAt l q).gen)
theorem Once.new (n : Nat) (h1 : 1 ≤ n) (h : n ≤ 64) : Once n 0 (newL n) (downs n n) [] [] [] [] := by
  refine ⟨Ok.new n h1 h, by simp, fun x hx => ?_, List.nodup_nil, by simp, ?_, rfl, rfl, by simp⟩
  · rw [List.eq_of_mem_replicate hx]; simp
  · rw [List.countP_replicate]; simp
section
variable {n i : Nat} {l : List Cl} {f hs vs al : List Int} {qs : List Nat}
theorem Once.keep (h : Once n i l f hs vs al qs) : Once n (i + 1) l f hs vs al qs :=
  ⟨h.ok, h.len, fun x hx => by have := h.gen x hx; omega, h.nd, h.live, h.cnt, h.hs, h.vs, h.all⟩
theorem Once.hlen (h : Once n i l f hs vs al qs) : hs.length = qs.length ∧ vs.length = qs.length := by
  rw [h.hs, h.vs]; simp
theorem Once.room (h : Once n i l f hs vs al qs) (hi : i < 1000) : f.length + hs.length = n := by
  have := h.ok.both (fun x hx => by have := h.gen x hx; omega)
  rw [h.hlen.1, h.cnt, ← h.len]; exact this
theorem Once.used (h : Once n i l f hs vs al qs) : (pHandles l f).length = hs.length := by rw [h.ok.used, h.hlen.1, h.cnt]
theorem cAt_at {q : Nat} (h : q < l.length) : cAt l q = l[q] := getD_at l q h default
theorem Once.at_ (h : Once n i l f hs vs al qs) {k : Nat} (hk : k < hs.length) : ∃ q, ∃ hq : q < l.length, ∃ hkq : k < qs.length, qs[k] = q ∧ l[q].live = true ∧ hs[k] = l[q].gen * 64 + q ∧ vs[k]? = some l[q].val := by
  have hl := h.hlen
  have hkq : k < qs.length := by omega
  obtain ⟨hq, hlv⟩ := h.live qs[k] (List.getElem_mem hkq)
  refine ⟨qs[k], hq, hkq, rfl, ?_, ?_, ?_⟩
  · rw [← cAt_at hq]; exact hlv
  · have : hs[k]? = some (l[qs[k]].gen * 64 + (qs[k] : Int)) := by rw [h.hs, List.getElem?_map, List.getElem?_eq_getElem hkq, Option.map_some, cAt_at hq]
    rw [List.getElem?_eq_getElem hk] at this
    injection this
  · rw [h.vs, List.getElem?_map, List.getElem?_eq_getElem hkq, Option.map_some, cAt_at hq]
theorem Once.get (h : Once n i l f hs vs al qs) {k : Nat} (hk : k < hs.length) : ∃ v, vs[k]? = some v ∧ pGet l f hs[k] = (v, true) := by
  obtain ⟨q, hq, _, _, hlv, e, ev⟩ := h.at_ hk
  exact ⟨_, ev, by rw [e]; exact get_at h.ok hq hlv⟩
theorem Once.bound (h : Once n i l f hs vs al qs) {k : Nat} (hk : k < hs.length) : -9223372036854775808 ≤ hs[k] ∧ hs[k] ≤ 9223372036854775807 := by
  obtain ⟨q, hq, _, _, hlv, e, _⟩ := h.at_ hk
  have h1 := h.ok.gen _ (List.getElem_mem hq)
  have h2 := h.ok.n
  rw [e]; omega
theorem cAt_set_other {q r : Nat} {x : Cl} (h : r ≠ q) : cAt (l.set q x) r = cAt l r := getD_set_other l q r x h
theorem cAt_set_self {q : Nat} {x : Cl} (h : q < l.length) : cAt (l.set q x) q = x := by
  unfold cAt; rw [getD_at _ _ (by rw [List.length_set]; exact h), List.getElem_set_self]
theorem Once.take {k : Nat} (h : Once n i l (f ++ [(k : Int)]) hs vs al qs) (v : Int) : ∃ hk : k < l.length, (∀ a ∈ al, a ≠ l[k].gen * 64 + k) ∧ pTake l (f ++ [(k : Int)]) v = ((l.set k ⟨l[k].gen, true, v⟩, f), l[k].gen * 64 + k, 0) ∧
    Once n (i + 1) (l.set k ⟨l[k].gen, true, v⟩) f (hs ++ [l[k].gen * 64 + k]) (vs ++ [v]) (al ++ [l[k].gen * 64 + k]) (qs ++ [k]) := by
  obtain ⟨hk, hd, hg1, hg0, ok1, e1⟩ := h.ok.take v
  have hkq : k ∉ qs := fun hm => by
    have := (h.live k hm).2
    rw [cAt_at hk, hd] at this; cases this
  have hne : ∀ q ∈ qs, q ≠ k := fun q hq e => hkq (e ▸ hq)
  have h64 := h.ok.n
  refine ⟨hk, fun a ha e => ?_, e1, ⟨ok1, by rw [List.length_set]; exact h.len, fun x hx => ?_, ?_, fun q hq => ?_, ?_, ?_, ?_, fun a ha => ?_⟩⟩
  · obtain ⟨q, g, hq, rfl, hle, hlt⟩ := h.all a ha
    have : q = k := by omega
    subst this
    rw [cAt_at hq] at hlt
    have := hlt hd
    omega
  · rcases mem_set hx with rfl | hx
    · have := h.gen _ (List.getElem_mem hk); simp only; omega
    · have := h.gen x hx; omega
  · rw [List.nodup_append]
    exact ⟨h.nd, by simp, fun a ha b hb => by rw [List.mem_singleton] at hb; subst hb; exact hne a ha⟩
  · rw [List.length_set]
    rcases List.mem_append.1 hq with hq | hq
    · rw [cAt_set_other (hne q hq)]; exact h.live q hq
    · rw [List.mem_singleton] at hq; subst hq
      exact ⟨hk, by rw [cAt_set_self hk]⟩
  · have := countP_set1 (·.live) l k hk ⟨l[k].gen, true, v⟩
    rw [hd] at this
    simp only [Bool.false_eq_true, if_false, if_true] at this
    rw [List.length_append, List.length_singleton, h.cnt]; omega
  · rw [List.map_append, h.hs]
    congr 1
    · exact List.map_congr_left fun q hq => by rw [cAt_set_other (hne q hq)]
    · simp only [List.map_cons, List.map_nil]; rw [cAt_set_self hk]
  · rw [List.map_append, h.vs]
    congr 1
    · exact List.map_congr_left fun q hq => by rw [cAt_set_other (hne q hq)]
    · simp only [List.map_cons, List.map_nil]; rw [cAt_set_self hk]
  · rw [List.length_set]
    rcases List.mem_append.1 ha with ha | ha
    · obtain ⟨q, g, hq, e, hle, hlt⟩ := h.all a ha
      refine ⟨q, g, hq, e, ?_⟩
      by_cases hqk : q = k
      · subst hqk
        rw [cAt_set_self hk]
        rw [cAt_at hk] at hle
        exact ⟨hle, fun c => by cases c⟩
      · rw [cAt_set_other hqk]; exact ⟨hle, hlt⟩
    · rw [List.mem_singleton] at ha; subst ha
      refine ⟨k, _, hk, rfl, ?_⟩
      rw [cAt_set_self hk]
      exact ⟨Int.le_refl _, fun c => by cases c⟩
theorem Once.give {j : Nat} (h : Once n i l f hs vs al qs) (hj : j < hs.length) (hi : i < 1000) : ∃ l' f', pChange giveD l f hs[j] = ((l', f'), 0) ∧ pChange giveD l' f' hs[j] = ((l', f'), 6) ∧
    Once n (i + 1) l' f' (hs.take j ++ hs.drop (j + 1)) (vs.take j ++ vs.drop (j + 1)) al (qs.take j ++ qs.drop (j + 1)) := by
  obtain ⟨q, hq, hjq, eq, hlv, eh, ev⟩ := h.at_ hj
  have hgq := h.gen _ (List.getElem_mem hq)
  have hg0 := h.ok.gen _ (List.getElem_mem hq)
  have h64 := h.ok.n
  obtain ⟨ok1, e1⟩ := h.ok.give hq hlv (by omega)
  have hq' : q < (l.set q ⟨l[q].gen + 1, false, 0⟩).length := by rw [List.length_set]; exact hq
  have hsplit : qs = qs.take j ++ q :: qs.drop (j + 1) := by
    conv => lhs; rw [← List.take_append_drop j qs, List.drop_eq_getElem_cons hjq, eq]
  have hnd := h.nd
  rw [hsplit, List.nodup_append] at hnd
  have hnc := List.nodup_cons.1 hnd.2.1
  have hmem : ∀ r ∈ qs.take j ++ qs.drop (j + 1), r ∈ qs ∧ r ≠ q := fun r hr => by
    rcases List.mem_append.1 hr with hr | hr
    · exact ⟨List.mem_of_mem_take hr, fun e => hnd.2.2 r hr q (by simp) e⟩
    · exact ⟨List.mem_of_mem_drop hr, fun e => hnc.1 (e ▸ hr)⟩
  refine ⟨_, _, by rw [eh]; exact e1, ?_, ⟨ok1, by rw [List.length_set]; exact h.len, fun x hx => ?_, ?_, fun r hr => ?_, ?_, ?_, ?_, fun a ha => ?_⟩⟩
  · rw [eh]
    exact give_none ok1 (find_none hq' (by omega) (.inl (by rw [List.getElem_set_self])))
  · rcases mem_set hx with rfl | hx
    · simp only; omega
    · have := h.gen x hx; omega
  · rw [List.nodup_append]
    exact ⟨hnd.1, hnc.2, fun a ha b hb => hnd.2.2 a ha b (by simp [hb])⟩
  · obtain ⟨hr1, hr2⟩ := hmem r hr
    rw [List.length_set, cAt_set_other hr2]
    exact h.live r hr1
  · have := countP_set1 (·.live) l q hq ⟨l[q].gen + 1, false, 0⟩
    rw [hlv] at this
    simp only [Bool.false_eq_true, if_false, if_true] at this
    have hc := h.cnt
    rw [hsplit] at hc
    simp only [List.length_append, List.length_cons] at hc ⊢
    omega
  · rw [h.hs, ← List.map_take, ← List.map_drop, ← List.map_append]
    exact List.map_congr_left fun r hr => by rw [cAt_set_other (hmem r hr).2]
  · rw [h.vs, ← List.map_take, ← List.map_drop, ← List.map_append]
    exact List.map_congr_left fun r hr => by rw [cAt_set_other (hmem r hr).2]
  · obtain ⟨r, g, hr, e, hle, hlt⟩ := h.all a ha
    rw [List.length_set]
    refine ⟨r, g, hr, e, ?_⟩
    by_cases hrq : r = q
    · subst hrq
      rw [cAt_set_self hq]
      rw [cAt_at hq] at hle
      exact ⟨by simp only; omega, fun _ => by simp only; omega⟩
    · rw [cAt_set_other hrq]; exact ⟨hle, hlt⟩
end
end Go.Proofs.Ytnmpighdkdffbaa
