/- WheelOnce's plain law: a row of 256 numbers that tells when each is due; how many of them are due. -/
import Derived.Test.YtbljiohdfjmhfaaWh8
import Derived.Test.YtbljiohdfjmhfaaRf15
namespace Go.Proofs.Ytbljiohdfjmhfaa
open Go.RowKit Go.Sort Go.Maps
open Dn (ltP)
set_option linter.unusedSimpArgs false
set_option linter.unusedVariables false

theorem look_cons (p : Int × Int) (L : IL) (k : Int) : lookK k (p :: L) = if p.1 = k then some p.2 else lookK k L := by
  unfold lookK
  rw [List.find?_cons]
  by_cases h : p.1 = k
  · simp [h]
  · simp [h, beq_eq_false_iff_ne.2 h]
theorem look_drop_ne (k j : Int) (L : IL) (h : j ≠ k) : lookK j (dropK k L) = lookK j L := by
  induction L with
  | nil => rfl
  | cons p L ih =>
    unfold dropK at *
    rw [List.filter_cons]
    by_cases hp : p.1 = k
    · simp only [hp, bne_self_eq_false, Bool.false_eq_true, if_false]
      rw [ih, look_cons, if_neg (by omega)]
    · have : (p.1 != k) = true := by simpa using hp
      simp only [this, if_true]
      rw [look_cons, look_cons, ih]
theorem look_drop_self (k : Int) (L : IL) : lookK k (dropK k L) = none := by
  unfold lookK
  rw [List.find?_eq_none.2 (fun p hp => by simpa using dropK_gone k L p hp)]; rfl
def atN (L : IL) (i : Nat) : Int := (lookK (i : Int) L).getD 0
def atR (L : IL) : List Value := (List.range 256).map fun i => .int .i64 (atN L i)
theorem atR_length (L : IL) : (atR L).length = 256 := by simp [atR]
theorem atR_nil : atR [] = List.replicate 256 (.int .i64 0) := by
  unfold atR
  rw [List.eq_replicate_iff]
  refine ⟨by simp, fun b hb => ?_⟩
  obtain ⟨i, _, rfl⟩ := List.mem_map.1 hb
  rfl
theorem atR_get (L : IL) (i : Nat) (h : i < 256) : (atR L)[i]? = some (.int .i64 (atN L i)) := by
  unfold atR
  rw [List.getElem?_map, List.getElem?_range h]; rfl
theorem atR_of (L M : IL) (i : Nat) (v : Int) (h1 : atN M i = v) (h2 : ∀ j, j ≠ i → atN M j = atN L j) : (atR L).set i (.int .i64 v) = atR M := by
  apply List.ext_getElem?
  intro j
  by_cases hj : j < 256
  · rw [List.getElem?_set, atR_get M j hj]
    by_cases e : i = j
    · subst e; simp [atR_length, hj, h1]
    · simp only [e, if_false]
      rw [atR_get L j hj, h2 j (fun c => e c.symm)]
  · rw [List.getElem?_eq_none (by rw [List.length_set, atR_length]; omega), List.getElem?_eq_none (by rw [atR_length]; omega)]
theorem atR_set (L : IL) (i : Nat) (v : Int) : (atR L).set i (.int .i64 v) = atR (((i : Int), v) :: dropK i L) := by
  refine atR_of _ _ _ _ ?_ ?_
  · unfold atN; rw [look_cons]; simp
  · intro j hj
    unfold atN
    rw [look_cons, if_neg (by simp only; omega), look_drop_ne _ _ _ (by omega)]
theorem atR_del (L : IL) (i : Nat) : (atR L).set i (.int .i64 0) = atR (dropK i L) := by
  refine atR_of _ _ _ _ ?_ ?_
  · unfold atN; rw [look_drop_self]; rfl
  · intro j hj
    unfold atN
    rw [look_drop_ne _ _ _ (by omega)]
/-- how many of the first k are due -/
def cntL (L : IL) (k : Nat) : Nat := ((List.range k).filter (fun i => decide (0 < atN L i))).length
theorem cnt_step (L : IL) (k : Nat) : cntL L (k + 1) = cntL L k + if 0 < atN L k then 1 else 0 := by
  unfold cntL
  rw [List.range_succ, List.filter_append, List.length_append]
  congr 1
  by_cases h : 0 < atN L k <;> simp [h]
theorem cnt_le (L : IL) (k : Nat) : cntL L k ≤ k := by
  have := List.length_filter_le (fun i => decide (0 < atN L i)) (List.range k)
  simpa [cntL] using this
theorem cnt_cons (p : Int × Int) (L : IL) (h0 : 0 ≤ p.1) (h1 : 0 < p.2) (hn : lookK p.1 L = none) (k : Nat) : cntL (p :: L) k = cntL L k + if p.1 < k then 1 else 0 := by
  induction k with
  | zero => rw [if_neg (by omega)]; rfl
  | succ k ih =>
    rw [cnt_step, cnt_step, ih]
    unfold atN
    rw [look_cons]
    by_cases e : p.1 = k
    · rw [if_pos e, ← e, hn]
      simp only [Option.getD_some, Option.getD_none, h1, if_true, Int.lt_irrefl, if_false]
      rw [if_pos (by omega)]
    · rw [if_neg e]
      by_cases q : p.1 < k
      · rw [if_pos q, if_pos (show p.1 < ((k + 1 : Nat) : Int) by omega)]; omega
      · rw [if_neg q, if_neg (show ¬ p.1 < ((k + 1 : Nat) : Int) by omega)]; omega
theorem cnt_all (L : IL) (hn : (L.map (·.1)).Nodup) (h : ∀ p ∈ L, (0 ≤ p.1 ∧ p.1 ≤ 255) ∧ 0 < p.2) : cntL L 256 = L.length := by
  induction L with
  | nil => decide
  | cons p L ih =>
    rw [List.map_cons, List.nodup_cons] at hn
    have hp := h p (by simp)
    rw [cnt_cons p L hp.1.1 hp.2 (by
      cases e : lookK p.1 L with
      | none => rfl
      | some v => exact absurd (List.mem_map.2 ⟨_, lookK_some e, rfl⟩) hn.1), ih hn.2 (fun q hq => h q (by simp [hq])), if_pos (by omega)]
    rfl
theorem atN_some {L : IL} {i : Nat} (h : 0 < atN L i) : ((i : Int), atN L i) ∈ L := by
  unfold atN at *
  cases e : lookK (i : Int) L with
  | none => rw [e] at h; simp at h
  | some v => exact lookK_some e
theorem atN_pos {L : IL} (h : ∀ p ∈ L, 0 < p.2) (i : Nat) : decide (0 < atN L i) = (lookK (i : Int) L).isSome := by
  unfold atN
  cases e : lookK (i : Int) L with
  | none => simp
  | some v => have := h _ (lookK_some e); simpa using this
theorem atN_mem {L : IL} (hn : (L.map (·.1)).Nodup) {x : Int × Int} (hx : x ∈ L) {i : Nat} (hi : x.1 = i) : atN L i = x.2 := by
  unfold atN
  rw [← hi, lookK_mem hn (v := x.2) hx]; rfl
/-- what is due, in order -/
theorem ord_all {l : IL} (hs : l.Pairwise (fun p q => ¬ ltP q p)) (hn : (l.map (·.1)).Nodup) : SoR l := by
  have h2 : l.Pairwise (fun p q => p.1 ≠ q.1) := List.pairwise_map.1 hn
  refine (hs.and h2).imp ?_
  rintro p q ⟨a, b⟩
  unfold ltP at a
  unfold Ltr
  omega
theorem ord_next {l : IL} (h : SoR l) {j : Nat} (hj : j < l.length) : ∀ q ∈ l.drop (j + 1), Ltr l[j].1 l[j].2 q := by
  have h2 := List.Pairwise.sublist (List.drop_sublist j l) h
  rw [List.drop_eq_getElem_cons hj, List.pairwise_cons] at h2
  exact h2.1
/-- one that is told is still there -/
theorem still_there {L l : IL} (hl : (l.map (·.1)).Nodup) (hsub : ∀ p ∈ l, p ∈ L) {j : Nat} (hj : j < l.length) : l[j] ∈ dropAll (l.take j) L := by
  refine List.mem_filter.2 ⟨hsub _ (List.getElem_mem hj), ?_⟩
  simp only [Bool.not_eq_true', List.any_eq_false, beq_iff_eq]
  intro q hq e
  have h2 : l.Pairwise (fun p q => p.1 ≠ q.1) := List.pairwise_map.1 hl
  rw [← List.take_append_drop j l, List.pairwise_append] at h2
  exact h2.2.2 q hq l[j] (List.mem_drop_iff_getElem.2 ⟨0, by omega, rfl⟩) e
theorem nodup_dropAll {o L : IL} (h : (L.map (·.1)).Nodup) : ((dropAll o L).map (·.1)).Nodup := (List.filter_sublist.map _).nodup h
end Go.Proofs.Ytbljiohdfjmhfaa
