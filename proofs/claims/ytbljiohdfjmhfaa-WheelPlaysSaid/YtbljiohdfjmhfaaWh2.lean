/- Package wheel: Set, New. -/
import Derived.Test.YtbljiohdfjmhfaaWh
import Derived.Test.YtbljiohdfjmhfaaApp
namespace Go.Proofs.Ytbljiohdfjmhfaa
open Go.RowKit Go.Sort Go.Maps
set_option linter.unusedSimpArgs false
set_option linter.unusedVariables false

def setOk (id at_ now : Int) : Bool := decide (0 ≤ id) && decide (id ≤ 255) && decide (now < at_) && decide (at_ ≤ 1099511627776)
theorem slotL_cons (n i : Nat) (p : Int × Int) (l : IL) : slotL n i (p :: l) = if p.2 % (n : Int) = i then p :: slotL n i l else slotL n i l := by
  unfold slotL
  rw [List.filter_cons]
  by_cases h : p.2 % (n : Int) = i <;> simp [h]

theorem wh_Set (W : World) (g wm : Nat) (ad : Addr) (rs : List Nat) (S : WS) (id at_ : Int) (hid : (Lit.int .i64 id).wf = true) (ha : (Lit.int .i64 at_).wf = true) (h : Wh W g wm ad rs S) :
    Calls Try.prog 17 #[.pointer (some ⟨g, 0, none⟩), .int .i64 id, .int .i64 at_] W fun e w' => e = .returned (.int .i64 (if setOk id at_ S.now then 0 else 8)) ∧ Wh w' g wm ad rs { S with l := if setOk id at_ S.now then (id, at_) :: dropK id S.l else S.l } ∧ FpW (fpOf g wm ad rs) W w' := by
  have hst := wh_Stop W g wm ad rs S id hid h
  have hbk := h.blk
  obtain ⟨c, hc⟩ := hbk
  have c2 := hc.cell 2
  simp at c2
  by_cases hok : setOk id at_ S.now = true
  · rw [if_pos hok, if_pos hok]
    have hok' := hok
    simp only [setOk, Bool.and_eq_true, decide_eq_true_eq] at hok'
    obtain ⟨⟨⟨q1, q2⟩, q3⟩, q4⟩ := hok'
    have hnow := h.hnow
    obtain ⟨i, hi, hin⟩ := mod_nat (a := at_) (n := S.n) (by have := h.hn; omega)
    have hrem : Int.tmod at_ S.n = i := by rw [rem_pos (by omega)]; exact hi
    have hnz := h.hn
    clear hok
    go_enter Try.func17, Try.ntmps17
    go_wp2_with fail
    refine hst.mono ?_
    rintro e w1 ⟨rfl, h1, f1⟩
    have few := h1.few
    have hat := h1.at_ (i := i) hin
    have hh1 := h1
    obtain ⟨⟨c', hc'⟩, k1, k2, k3, k4, k5, k6, k7, k8⟩ := h1
    simp only at few k1 k2 k3 k4 k5 k6 k7 k8 hc' hat
    have c0 := hc'.cell 0
    have c1 := hc'.cell 1
    simp at c0 c1
    obtain ⟨hr, hcell⟩ := hat
    have h9 := k4 i hr
    obtain ⟨n1, n2, n3, n4, n5, n6, n7⟩ := nd_parts k5
    have hrm : rs[i] ∈ rs := List.getElem_mem hr
    have m1 : g ≠ rs[i] := fun e => n3 (e ▸ hrm)
    have m2 : wm ≠ rs[i] := fun e => n5 (e ▸ hrm)
    have hri : ∀ j (hj : j < rs.length), rs[j] = rs[i] → j = i := fun j hj e => nd_inj n7 hj hr e
    generalize hre : rs[i] = r at *
    have hwi : (Lit.int .i64 i).wf = true := wfi (by omega)
    have l1 : (slotL S.n i (dropK id S.l)).length < 1000000000 := by have := slotL_few (n := S.n) (i := i) (l := dropK id S.l); omega
    have l2 : (whereL S.n (dropK id S.l)).length < 1000000000 := by unfold whereL; rw [List.length_map]; omega
    go_wp2_with (first
      | (at_mapUpdate; refine wm_put _ rfl _ _ _ rfl r _ rfl h9 l1 id at_ rfl rfl hid ha ?_; intro w2 o1 g1 s1; have k1' := hc'.gr g1 m1; have c1' := k1'.cell 1; simp at c1'; have o3 := k3.kept g1 (by intro e; injection e with e; exact m2 e))
      | (at_mapUpdate; refine wm_put _ rfl _ _ _ rfl wm _ rfl o3 l2 id i rfl rfl hid hwi ?_; intro w3 o2 g2 s2)
      | go_in)
    go_ret
    have f2 : FpW (fpOf g wm ad rs) W w2 := f1.gr g1 (by simp [fpOf, hrm])
    have f3 : FpW (fpOf g wm ad rs) W w3 := f2.gr g2 (by simp [fpOf])
    have b2 : ∀ j, j < w1.heap.size → j ≠ r → j ≠ wm → w3.heap[j]? = w1.heap[j]? := fun j hj a b =>
      (g2.block j (by omega) (by intro e; injection e with e; exact b e)).trans (g1.block j hj (by intro e; injection e with e; exact a e))
    have fr : FpW [r, wm] w1 w3 := ⟨g2.os.trans g1.os, g2.tape.trans g1.tape, g2.output.trans g1.output, by omega, fun j hj hn => b2 j hj (by intro e; exact hn (by simp [e])) (by intro e; exact hn (by simp [e]))⟩
    refine ⟨rfl, ⟨⟨c', (b2 g hc'.lt m1 n1).trans hc'⟩, k1, ?_, ?_, fun j hj => ?_, k5, k6, k7, fun p hp => ?_⟩, f3⟩
    · exact fr.rd k2 (by
        rintro a e; injection e with e; subst e
        simp only [List.mem_cons, List.not_mem_nil, or_false, not_or]
        exact ⟨fun e => n6 (e ▸ hrm), fun e => n4 e.symm⟩)
    · have e : whereL S.n ((id, at_) :: dropK id S.l) = (id, (i : Int)) :: dropK id (whereL S.n (dropK id S.l)) := by
        rw [← whereL_drop, dropK_self (dropK_gone id S.l)]
        unfold whereL; rw [List.map_cons]; simp only; rw [hi]
      simp only; rw [e]; exact o2
    · simp only [slotL_cons]
      by_cases hji : j = i
      · subst hji
        rw [hre, if_pos hi]
        have e : dropK id (slotL S.n j (dropK id S.l)) = slotL S.n j (dropK id S.l) := dropK_self fun p hp => dropK_gone id S.l p (List.mem_filter.1 hp).1
        rw [e] at o1
        exact o1.kept g2 (by intro e; injection e with e; exact m2 e.symm)
      · have a1 : rs[j] ≠ r := fun e => hji (hri j hj e)
        have a2 : rs[j] ≠ wm := fun e => n5 (e ▸ List.getElem_mem hj)
        rw [if_neg (by rw [hi]; omega)]
        exact (k4 j hj).block (b2 _ (k4 j hj).lt a1 a2)
    · rcases List.mem_cons.1 hp with rfl | hp
      · exact ⟨q1, q2, q3, q4⟩
      · exact k8 p hp
  · have hf : setOk id at_ S.now = false := by simpa using hok
    rw [hf]
    simp only [Bool.false_eq_true, if_false]
    have cs : id < 0 ∨ (0 ≤ id ∧ 255 < id) ∨ (0 ≤ id ∧ id ≤ 255 ∧ at_ ≤ S.now) ∨ (0 ≤ id ∧ id ≤ 255 ∧ S.now < at_ ∧ 1099511627776 < at_) := by
      simp only [setOk, Bool.and_eq_true, decide_eq_true_eq] at hok
      omega
    clear hok hst
    rcases cs with q | ⟨q1, q2⟩ | ⟨q1, q2, q3⟩ | ⟨q1, q2, q3, q4⟩
    all_goals
      go_enter Try.func17, Try.ntmps17
      go_wp2
      go_ret
      exact ⟨rfl, h, FpW.refl _ _⟩
end Go.Proofs.Ytbljiohdfjmhfaa
