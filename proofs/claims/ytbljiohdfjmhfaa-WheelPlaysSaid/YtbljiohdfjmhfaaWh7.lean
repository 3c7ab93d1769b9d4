/- Package wheel: Go. -/
import Derived.Test.YtbljiohdfjmhfaaWh6
namespace Go.Proofs.Ytbljiohdfjmhfaa
open Go.RowKit Go.Sort Go.Maps
open Dn (ltP sorted_any)
set_option linter.unusedSimpArgs false
set_option linter.unusedVariables false

/-- what stands in the first k slots that are looked at, up to now -/
def sawL (n k : Nat) (now : Int) (L : IL) : IL := L.filter (fun p => (List.range k).any (fun j => decide ((now - (j : Int)) % (n : Int) = p.2 % (n : Int))) && decide (p.2 ≤ now))
theorem saw_few (n k : Nat) (now : Int) (L : IL) : (sawL n k now L).length ≤ L.length := List.length_filter_le _ _
theorem mod_apart {a : Int} {n i j : Nat} (hi : i < n) (hj : j < i) : (a - (i : Int)) % (n : Int) ≠ (a - (j : Int)) % (n : Int) := by
  intro e
  have h := Int.emod_emod_of_dvd
  have h1 : (a - (j : Int) - (a - (i : Int))) % (n : Int) = 0 := by
    rw [Int.sub_emod, e, Int.sub_self]; rfl
  have h2 : a - (j : Int) - (a - (i : Int)) = ((i - j : Nat) : Int) := by omega
  rw [h2, Int.emod_eq_of_lt (by omega) (by omega)] at h1
  omega
theorem saw_step {n k i : Nat} {now : Int} (hk : k < n) (hi : (now - (k : Int)) % (n : Int) = i) (L : IL) : (sawL n k now L ++ upL n i now L).Perm (sawL n (k + 1) now L) := by
  unfold sawL upL slotL
  rw [List.filter_filter]
  refine (filter_or L _ _ ?_).trans (.of_eq (List.filter_congr fun p _ => ?_))
  · intro p _ h
    simp only [Bool.and_eq_true, decide_eq_true_eq, List.any_eq_true, List.mem_range] at h
    obtain ⟨⟨j, hj, e⟩, _⟩ := h
    have : ¬ (p.2 % (n : Int) = i) := by
      intro e2
      exact mod_apart (a := now) hk hj (by rw [hi, ← e2, e])
    simp [this]
  · rw [List.range_succ, List.any_append, Bool.eq_iff_iff]
    simp only [Bool.or_eq_true, Bool.and_eq_true, decide_eq_true_eq, beq_iff_eq, List.any_cons, List.any_nil, Bool.or_false]
    rw [hi]
    constructor
    · rintro (⟨a, b⟩ | ⟨a, b⟩)
      · exact ⟨.inl a, b⟩
      · exact ⟨.inr b.symm, a⟩
    · rintro ⟨a | a, b⟩
      · exact .inl ⟨a, b⟩
      · exact .inr ⟨b, a.symm⟩
theorem saw_all {n : Nat} {now was : Int} (hn : 1 ≤ n) (k : Nat) (hk : (k : Int) = min (now - was) n) (L : IL) (h : ∀ p ∈ L, was < p.2) : sawL n k now L = L.filter (fun p => decide (p.2 ≤ now)) := by
  refine List.filter_congr fun p hp => ?_
  have := h p hp
  by_cases hle : p.2 ≤ now
  · simp only [hle, decide_true, Bool.and_true, List.any_eq_true, List.mem_range, decide_eq_true_eq]
    obtain ⟨d, hd⟩ : ∃ d : Nat, now - p.2 = d := ⟨(now - p.2).toNat, by omega⟩
    by_cases hc : d < k
    · exact ⟨d, hc, by rw [show now - (d : Int) = p.2 by omega]⟩
    · have hkn : k = n := by omega
      subst hkn
      refine ⟨d % k, Nat.mod_lt _ (by omega), ?_⟩
      have e : now - ((d % k : Nat) : Int) = p.2 + (k : Int) * ((d / k : Nat) : Int) := by
        have := Nat.div_add_mod d k
        have h2 : ((k * (d / k) + d % k : Nat) : Int) = d := by rw [this]
        rw [Int.natCast_add, Int.natCast_mul] at h2
        omega
      rw [e, Int.add_mul_emod_self_left]
  · simp [hle]
def dropAll (o L : IL) : IL := L.filter (fun p => !(o.any (fun q => q.1 == p.1)))
theorem drop_step (o : IL) (x : Int × Int) (L : IL) : dropK x.1 (dropAll o L) = dropAll (o ++ [x]) L := by
  unfold dropAll dropK
  rw [List.filter_filter]
  refine List.filter_congr fun p _ => ?_
  rw [List.any_append]
  simp only [List.any_cons, List.any_nil, Bool.or_false, Bool.not_or, bne]
  rw [Bool.and_comm, show (p.1 == x.1) = (x.1 == p.1) from by rw [Bool.eq_iff_iff, beq_iff_eq, beq_iff_eq]; exact eq_comm]
theorem drop_due {o L : IL} {now : Int} (hn : (L.map (·.1)).Nodup) (hp : o.Perm (L.filter (fun p => decide (p.2 ≤ now)))) : dropAll o L = L.filter (fun p => decide (now < p.2)) := by
  refine List.filter_congr fun p hpm => ?_
  rw [Bool.eq_iff_iff]
  simp only [Bool.not_eq_true', decide_eq_true_eq]
  constructor
  · intro h
    refine Int.not_le.1 fun hle => ?_
    have hm : p ∈ o := hp.mem_iff.2 (List.mem_filter.2 ⟨hpm, by simpa using hle⟩)
    have := (List.any_eq_false.1 h) p hm
    simp at this
  · intro h
    rw [List.any_eq_false]
    intro q hq e
    obtain ⟨hq1, hq2⟩ := List.mem_filter.1 (hp.mem_iff.1 hq)
    obtain ⟨a, b⟩ := p
    obtain ⟨a', b'⟩ := q
    simp only [beq_iff_eq] at e
    subst e
    have := mem_one hn hpm hq1
    subst this
    simp at hq2
    simp only at h
    omega
theorem Wh.later {W : World} {g wm : Nat} {ad : Addr} {rs : List Nat} {S : WS} (h : Wh W g wm ad rs S) (now : Int) (h1 : 0 ≤ now ∧ now ≤ 1099511627776) (h2 : ∀ p ∈ S.l, now < p.2) : Wh (W.setCell ⟨g, 2, none⟩ (.int .i64 now)) g wm ad rs { S with now := now } := by
  have hs : (W.setCell ⟨g, 2, none⟩ (.int .i64 now)).heap.size = W.heap.size := by simp [World.setCell]
  have hf : FpW [g] W (W.setCell ⟨g, 2, none⟩ (.int .i64 now)) := ⟨rfl, rfl, rfl, by rw [hs]; exact Nat.le_refl _, fun i hi hn => Below.heap_setCell _ _ _ _ (by simpa using hn)⟩
  obtain ⟨⟨c, hc⟩, k1, k2, k3, k4, k5, k6, k7, k8⟩ := h
  obtain ⟨n1, n2, n3, n4, n5, n6, n7⟩ := nd_parts k5
  refine ⟨⟨c, hc.set_ 2 _⟩, k1, hf.rd k2 (by rintro a e; injection e with e; subst e; simp; exact fun e => n2 e.symm), k3.block (hf.block _ k3.lt (by simp; exact fun e => n1 e.symm)), fun i hi => (k4 i hi).block (hf.block _ (k4 i hi).lt (by simp; intro e; exact n3 (e ▸ List.getElem_mem hi))), k5, k6, h1, fun p hp => ?_⟩
  have := k8 p hp
  exact ⟨this.1, this.2.1, h2 p hp, this.2.2.2⟩
end Go.Proofs.Ytbljiohdfjmhfaa
