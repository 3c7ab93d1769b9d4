/- callboylaw04: ChainChanges' walk. -/
import Derived.Test.YthicpjfdljgfpaaB0
import Derived.Test.YthicpjfdljgfpaaLt
namespace Go.Proofs.Ythicpjfdljgfpaa
open Go.RowKit Go.Sort
set_option linter.unusedSimpArgs false
set_option linter.unusedVariables false

abbrev Few (x : Ch) : Prop := x.ns.length ≤ 1000 ∧ x.hs.length ≤ 1000 ∧ x.ts.length ≤ 1000
theorem few_laid {st : Ch} (h : Few st) (L : List (List Nat)) (e : L.length = st.hs.length) : Few (laid st.ns.length L) := by
  obtain ⟨a, b, c⟩ := laid_lens st.ns.length L
  unfold Few
  rw [a, b, c, e]; exact ⟨h.1, h.2.1, h.2.1⟩
theorem dPush_few {st : Ch} (h : Few st) (l a : Int) : Few (dPush st l a).1 := by
  unfold dPush
  repeat' split
  all_goals first | exact h | exact few_laid h _ (by simp [lists_len])
theorem dUnlink_few {st : Ch} (h : Few st) (a : Int) : Few (dUnlink st a).1 := by
  unfold dUnlink
  repeat' split
  all_goals first | exact h | exact few_laid h _ (by simp [lists_len])
theorem dSplice_few {st : Ch} (h : Few st) (l a : Int) : Few (dSplice st l a).1 := by
  unfold dSplice
  repeat' split
  all_goals first | exact h | exact few_laid h _ (by simp [lists_len])
theorem dTurn_few {st : Ch} (h : Few st) (l : Int) : Few (dTurn st l) := by
  unfold dTurn
  repeat' split
  all_goals first | exact h | exact few_laid h _ (by simp [lists_len])
set_option maxRecDepth 100000 in
set_option maxHeartbeats 16000000 in
theorem ChainChanges_walk (V : Value) (st : Ch) (list at_ : Int) (w : World) (h : CsAt w V st) :
    Calls Try.prog 3 #[V, .int .i64 list, .int .i64 at_] w fun e w' => e = .returned (.bool true) ∧ Below w.heap.size w w' := by
  obtain ⟨A, B, C, a, b, c, rfl, hq⟩ := h
  have n3 : CsAt w (csV A B C a b c st.ns.length st.hs.length st.ts.length) st := ⟨A, B, C, a, b, c, rfl, hq⟩
  clear hq
  go_enter Try.func3, Try.ntmps3
  go_upto_region 1 with fail
  generalize hV : World.alloc w _ = w1
  have hb : Below w.heap.size w w1 := by subst hV; (repeat (first | with_reducible exact Below.refl _ _ | with_reducible assumption | with_reducible refine Below.drew ?_ | with_reducible refine Below.drewN ?_ _ | with_reducible refine Below.alloc1 ?_ _ | with_reducible refine Below.setCell1 ?_ (by first | omega | (simp; done) | (simp; omega)) _ | with_reducible refine Below.step ?_ (by with_reducible assumption)))
  have k3 : Bk w1 w.heap.size 25 (csC A B C a b c st.ns.length st.hs.length st.ts.length) := by subst hV; (repeat (first | with_reducible exact Bk.new' _ _ _ _ (by simp; done) | with_reducible assumption | with_reducible refine Bk.alloc ?_ _ | with_reducible refine Bk.drew ?_ | with_reducible refine Bk.drewN ?_ _ | with_reducible refine Bk.step ?_ (by with_reducible assumption) | with_reducible refine Bk.far ?_ (by first | omega | (simp; done) | (simp; omega)) _))
  clear hV
  replace n3 := n3.step hb
  have gl3 := k3.lt
  generalize g3e : w.heap.size = g3 at *
  subst g3e
  have k3_0 := k3.cell 0; have k3_f0 := k3.frozen 0; have k3_1 := k3.cell 1; have k3_f1 := k3.frozen 1; have k3_2 := k3.cell 2; have k3_f2 := k3.frozen 2; simp only [List.set_cons_zero, List.set_cons_succ, List.getElem?_cons_zero, List.getElem?_cons_succ] at k3_0 k3_1 k3_2; have lt_k3 := k3.lt
  have hF := fun W h => law04_few_at (csV A B C a b c st.ns.length st.hs.length st.ts.length) st W h
  by_cases hf : st.ns.length ≤ 70 ∧ st.hs.length ≤ 20 ∧ st.ts.length ≤ 20
  case neg =>
    rw [few_f hf] at hF
    clear hf
    go_wp2_with fail
    refine (hF _ n3).mono ?_; rintro e w2 ⟨rfl, hy⟩
    replace hb := hb.step hy
    go_wp2_with fail
    refine (awake04_any _).mono ?_; rintro e w3 ⟨rfl, hy2⟩
    go_wp2
    go_ret
    exact ⟨rfl, hb.step hy2⟩
  rw [few_t hf] at hF
  have hl : Few st := by unfold Few; omega
  have HL := hide hl
  have HP := hide (dPush_few hl list at_)
  have HU := hide (dUnlink_few hl at_)
  have HS := hide (dSplice_few hl list at_)
  have HT := hide (dTurn_few hl list)
  clear hf hl
  have hP1 := fun V W h => chain_Push_any V st list at_ W HL.out.1 HL.out.2.1 HL.out.2.2 h
  have hP2 := fun V W h => r04_Push_at V st list at_ W HL.out.1 HL.out.2.1 HL.out.2.2 h
  have hU1 := fun V W h => chain_Unlink_any V st at_ W HL.out.1 HL.out.2.1 HL.out.2.2 h
  have hU2 := fun V W h => r04_Unlink_at V st at_ W HL.out.1 HL.out.2.1 HL.out.2.2 h
  have hS1 := fun V W h => chain_Splice_any V st list at_ W HL.out.1 HL.out.2.1 HL.out.2.2 h
  have hS2 := fun V W h => r04_Splice_at V st list at_ W HL.out.1 HL.out.2.1 HL.out.2.2 h
  have hT1 := fun V W h => chain_Turn_any V st list W HL.out.1 HL.out.2.1 HL.out.2.2 h
  have hT2 := fun V W h => r04_Turn_at V st list W HL.out.1 HL.out.2.1 HL.out.2.2 h
  rw [push_eq] at hP1
  rw [unlink_eq] at hU1
  rw [turn_eq] at hT1
  generalize hDP : dPush st list at_ = DP at *
  obtain ⟨dp, pe⟩ := DP
  generalize hDU : dUnlink st at_ = DU at *
  obtain ⟨du, ue⟩ := DU
  generalize hDS : dSplice st list at_ = DS at *
  obtain ⟨ds, se⟩ := DS
  generalize hDT : dTurn st list = dt at *
  clear hDP hDU hDS hDT
  dsimp only at hP1 hP2 hU1 hU2 hS1 hS2 HP HU HS
  go_wp2_with fail
  refine (hF _ n3).mono ?_; rintro e w2 ⟨rfl, hy⟩
  replace k3 := k3.step hy; (try clear k3_0 k3_f0 k3_1 k3_f1 k3_2 k3_f2); have k3_0 := k3.cell 0; have k3_f0 := k3.frozen 0; have k3_1 := k3.cell 1; have k3_f1 := k3.frozen 1; have k3_2 := k3.cell 2; have k3_f2 := k3.frozen 2; simp only [List.set_cons_zero, List.set_cons_succ, List.getElem?_cons_zero, List.getElem?_cons_succ] at k3_0 k3_1 k3_2; (try clear lt_k3); have lt_k3 := k3.lt
  replace n3 := n3.step hy
  replace hb := hb.step hy
  clear hy
  clear hF
  go_wp2_with fail
  refine (law04_own_at _ st _ HL.out.1 HL.out.2.1 HL.out.2.2 n3).mono ?_; rintro e w3 ⟨_, rfl, hn, hy⟩
  replace k3 := k3.step hy; (try clear k3_0 k3_f0 k3_1 k3_f1 k3_2 k3_f2); have k3_0 := k3.cell 0; have k3_f0 := k3.frozen 0; have k3_1 := k3.cell 1; have k3_f1 := k3.frozen 1; have k3_2 := k3.cell 2; have k3_f2 := k3.frozen 2; simp only [List.set_cons_zero, List.set_cons_succ, List.getElem?_cons_zero, List.getElem?_cons_succ] at k3_0 k3_1 k3_2; (try clear lt_k3); have lt_k3 := k3.lt
  replace n3 := n3.step hy
  replace hb := hb.step hy
  clear hy
  obtain ⟨A7, B7, C7, a7, b7, c7, rfl, hq⟩ := hn
  have n7 : CsAt _ (csV A7 B7 C7 a7 b7 c7 st.ns.length st.hs.length st.ts.length) st := ⟨A7, B7, C7, a7, b7, c7, rfl, hq⟩
  clear hq
  go_wp2_with fail
  generalize hV : World.alloc w3 _ = w4
  have hy : Below w3.heap.size w3 w4 := by subst hV; (repeat (first | with_reducible exact Below.refl _ _ | with_reducible assumption | with_reducible refine Below.drew ?_ | with_reducible refine Below.drewN ?_ _ | with_reducible refine Below.alloc1 ?_ _ | with_reducible refine Below.setCell1 ?_ (by first | omega | (simp; done) | (simp; omega)) _ | with_reducible refine Below.step ?_ (by with_reducible assumption)))
  have k7 : Bk w4 w3.heap.size 30 (csC A7 B7 C7 a7 b7 c7 st.ns.length st.hs.length st.ts.length) := by subst hV; (repeat (first | with_reducible exact Bk.new' _ _ _ _ (by simp; done) | with_reducible assumption | with_reducible refine Bk.alloc ?_ _ | with_reducible refine Bk.drew ?_ | with_reducible refine Bk.drewN ?_ _ | with_reducible refine Bk.step ?_ (by with_reducible assumption) | with_reducible refine Bk.far ?_ (by first | omega | (simp; done) | (simp; omega)) _))
  clear hV
  replace n7 := n7.step hy
  replace k3 := k3.step hy; (try clear k3_0 k3_f0 k3_1 k3_f1 k3_2 k3_f2); have k3_0 := k3.cell 0; have k3_f0 := k3.frozen 0; have k3_1 := k3.cell 1; have k3_f1 := k3.frozen 1; have k3_2 := k3.cell 2; have k3_f2 := k3.frozen 2; simp only [List.set_cons_zero, List.set_cons_succ, List.getElem?_cons_zero, List.getElem?_cons_succ] at k3_0 k3_1 k3_2; (try clear lt_k3); have lt_k3 := k3.lt
  replace n3 := n3.step hy
  replace hb := hb.step hy
  clear hy
  have gl7 := k7.lt
  generalize w3.heap.size = g7 at *
  have k7_0 := k7.cell 0; have k7_f0 := k7.frozen 0; have k7_1 := k7.cell 1; have k7_f1 := k7.frozen 1; have k7_2 := k7.cell 2; have k7_f2 := k7.frozen 2; simp only [List.set_cons_zero, List.set_cons_succ, List.getElem?_cons_zero, List.getElem?_cons_succ] at k7_0 k7_1 k7_2; have lt_k7 := k7.lt
  refine (hP1 _ _ n7).mono ?_; rintro e w5 ⟨_, rfl, hn, hy⟩
  replace k3 := k3.step hy; (try clear k3_0 k3_f0 k3_1 k3_f1 k3_2 k3_f2); have k3_0 := k3.cell 0; have k3_f0 := k3.frozen 0; have k3_1 := k3.cell 1; have k3_f1 := k3.frozen 1; have k3_2 := k3.cell 2; have k3_f2 := k3.frozen 2; simp only [List.set_cons_zero, List.set_cons_succ, List.getElem?_cons_zero, List.getElem?_cons_succ] at k3_0 k3_1 k3_2; (try clear lt_k3); have lt_k3 := k3.lt; replace k7 := k7.step hy; (try clear k7_0 k7_f0 k7_1 k7_f1 k7_2 k7_f2); have k7_0 := k7.cell 0; have k7_f0 := k7.frozen 0; have k7_1 := k7.cell 1; have k7_f1 := k7.frozen 1; have k7_2 := k7.cell 2; have k7_f2 := k7.frozen 2; simp only [List.set_cons_zero, List.set_cons_succ, List.getElem?_cons_zero, List.getElem?_cons_succ] at k7_0 k7_1 k7_2; (try clear lt_k7); have lt_k7 := k7.lt
  replace n3 := n3.step hy
  replace n7 := n7.step hy
  replace hb := hb.step hy
  clear hy
  obtain ⟨A8, B8, C8, a8, b8, c8, rfl, hq⟩ := hn
  have n8 : CsAt _ (csV A8 B8 C8 a8 b8 c8 dp.ns.length dp.hs.length dp.ts.length) dp := CsNew.at_ (b := w4.heap.size) ⟨A8, B8, C8, a8, b8, c8, rfl, hq⟩
  clear hq
  go_wp2_with fail
  generalize hV : World.alloc w5 _ = w6
  have hy : Below w5.heap.size w5 w6 := by subst hV; (repeat (first | with_reducible exact Below.refl _ _ | with_reducible assumption | with_reducible refine Below.drew ?_ | with_reducible refine Below.drewN ?_ _ | with_reducible refine Below.alloc1 ?_ _ | with_reducible refine Below.setCell1 ?_ (by first | omega | (simp; done) | (simp; omega)) _ | with_reducible refine Below.step ?_ (by with_reducible assumption)))
  have k8 : Bk w6 w5.heap.size 30 (csC A8 B8 C8 a8 b8 c8 dp.ns.length dp.hs.length dp.ts.length) := by subst hV; (repeat (first | with_reducible exact Bk.new' _ _ _ _ (by simp; done) | with_reducible assumption | with_reducible refine Bk.alloc ?_ _ | with_reducible refine Bk.drew ?_ | with_reducible refine Bk.drewN ?_ _ | with_reducible refine Bk.step ?_ (by with_reducible assumption) | with_reducible refine Bk.far ?_ (by first | omega | (simp; done) | (simp; omega)) _))
  clear hV
  replace n8 := n8.step hy
  replace k3 := k3.step hy; (try clear k3_0 k3_f0 k3_1 k3_f1 k3_2 k3_f2); have k3_0 := k3.cell 0; have k3_f0 := k3.frozen 0; have k3_1 := k3.cell 1; have k3_f1 := k3.frozen 1; have k3_2 := k3.cell 2; have k3_f2 := k3.frozen 2; simp only [List.set_cons_zero, List.set_cons_succ, List.getElem?_cons_zero, List.getElem?_cons_succ] at k3_0 k3_1 k3_2; (try clear lt_k3); have lt_k3 := k3.lt; replace k7 := k7.step hy; (try clear k7_0 k7_f0 k7_1 k7_f1 k7_2 k7_f2); have k7_0 := k7.cell 0; have k7_f0 := k7.frozen 0; have k7_1 := k7.cell 1; have k7_f1 := k7.frozen 1; have k7_2 := k7.cell 2; have k7_f2 := k7.frozen 2; simp only [List.set_cons_zero, List.set_cons_succ, List.getElem?_cons_zero, List.getElem?_cons_succ] at k7_0 k7_1 k7_2; (try clear lt_k7); have lt_k7 := k7.lt
  replace n3 := n3.step hy
  replace n7 := n7.step hy
  replace hb := hb.step hy
  clear hy
  have gl8 := k8.lt
  generalize w5.heap.size = g8 at *
  have k8_0 := k8.cell 0; have k8_f0 := k8.frozen 0; have k8_1 := k8.cell 1; have k8_f1 := k8.frozen 1; have k8_2 := k8.cell 2; have k8_f2 := k8.frozen 2; simp only [List.set_cons_zero, List.set_cons_succ, List.getElem?_cons_zero, List.getElem?_cons_succ] at k8_0 k8_1 k8_2; have lt_k8 := k8.lt
  clear hP1
  refine (hP2 _ _ n3).mono ?_; rintro e w7 ⟨_, rfl, hn, hy⟩
  replace k3 := k3.step hy; (try clear k3_0 k3_f0 k3_1 k3_f1 k3_2 k3_f2); have k3_0 := k3.cell 0; have k3_f0 := k3.frozen 0; have k3_1 := k3.cell 1; have k3_f1 := k3.frozen 1; have k3_2 := k3.cell 2; have k3_f2 := k3.frozen 2; simp only [List.set_cons_zero, List.set_cons_succ, List.getElem?_cons_zero, List.getElem?_cons_succ] at k3_0 k3_1 k3_2; (try clear lt_k3); have lt_k3 := k3.lt; replace k7 := k7.step hy; (try clear k7_0 k7_f0 k7_1 k7_f1 k7_2 k7_f2); have k7_0 := k7.cell 0; have k7_f0 := k7.frozen 0; have k7_1 := k7.cell 1; have k7_f1 := k7.frozen 1; have k7_2 := k7.cell 2; have k7_f2 := k7.frozen 2; simp only [List.set_cons_zero, List.set_cons_succ, List.getElem?_cons_zero, List.getElem?_cons_succ] at k7_0 k7_1 k7_2; (try clear lt_k7); have lt_k7 := k7.lt; replace k8 := k8.step hy; (try clear k8_0 k8_f0 k8_1 k8_f1 k8_2 k8_f2); have k8_0 := k8.cell 0; have k8_f0 := k8.frozen 0; have k8_1 := k8.cell 1; have k8_f1 := k8.frozen 1; have k8_2 := k8.cell 2; have k8_f2 := k8.frozen 2; simp only [List.set_cons_zero, List.set_cons_succ, List.getElem?_cons_zero, List.getElem?_cons_succ] at k8_0 k8_1 k8_2; (try clear lt_k8); have lt_k8 := k8.lt
  replace n3 := n3.step hy
  replace n7 := n7.step hy
  replace n8 := n8.step hy
  replace hb := hb.step hy
  clear hy
  obtain ⟨A10, B10, C10, a10, b10, c10, rfl, hq⟩ := hn
  have n10 : CsAt _ (csV A10 B10 C10 a10 b10 c10 dp.ns.length dp.hs.length dp.ts.length) dp := ⟨A10, B10, C10, a10, b10, c10, rfl, hq⟩
  clear hq
  go_wp2_with fail
  generalize hV : World.alloc w7 _ = w8
  have hy : Below w7.heap.size w7 w8 := by subst hV; (repeat (first | with_reducible exact Below.refl _ _ | with_reducible assumption | with_reducible refine Below.drew ?_ | with_reducible refine Below.drewN ?_ _ | with_reducible refine Below.alloc1 ?_ _ | with_reducible refine Below.setCell1 ?_ (by first | omega | (simp; done) | (simp; omega)) _ | with_reducible refine Below.step ?_ (by with_reducible assumption)))
  have k10 : Bk w8 w7.heap.size 25 (csC A10 B10 C10 a10 b10 c10 dp.ns.length dp.hs.length dp.ts.length) := by subst hV; (repeat (first | with_reducible exact Bk.new' _ _ _ _ (by simp; done) | with_reducible assumption | with_reducible refine Bk.alloc ?_ _ | with_reducible refine Bk.drew ?_ | with_reducible refine Bk.drewN ?_ _ | with_reducible refine Bk.step ?_ (by with_reducible assumption) | with_reducible refine Bk.far ?_ (by first | omega | (simp; done) | (simp; omega)) _))
  clear hV
  replace n10 := n10.step hy
  replace k3 := k3.step hy; (try clear k3_0 k3_f0 k3_1 k3_f1 k3_2 k3_f2); have k3_0 := k3.cell 0; have k3_f0 := k3.frozen 0; have k3_1 := k3.cell 1; have k3_f1 := k3.frozen 1; have k3_2 := k3.cell 2; have k3_f2 := k3.frozen 2; simp only [List.set_cons_zero, List.set_cons_succ, List.getElem?_cons_zero, List.getElem?_cons_succ] at k3_0 k3_1 k3_2; (try clear lt_k3); have lt_k3 := k3.lt; replace k7 := k7.step hy; (try clear k7_0 k7_f0 k7_1 k7_f1 k7_2 k7_f2); have k7_0 := k7.cell 0; have k7_f0 := k7.frozen 0; have k7_1 := k7.cell 1; have k7_f1 := k7.frozen 1; have k7_2 := k7.cell 2; have k7_f2 := k7.frozen 2; simp only [List.set_cons_zero, List.set_cons_succ, List.getElem?_cons_zero, List.getElem?_cons_succ] at k7_0 k7_1 k7_2; (try clear lt_k7); have lt_k7 := k7.lt; replace k8 := k8.step hy; (try clear k8_0 k8_f0 k8_1 k8_f1 k8_2 k8_f2); have k8_0 := k8.cell 0; have k8_f0 := k8.frozen 0; have k8_1 := k8.cell 1; have k8_f1 := k8.frozen 1; have k8_2 := k8.cell 2; have k8_f2 := k8.frozen 2; simp only [List.set_cons_zero, List.set_cons_succ, List.getElem?_cons_zero, List.getElem?_cons_succ] at k8_0 k8_1 k8_2; (try clear lt_k8); have lt_k8 := k8.lt
  replace n3 := n3.step hy
  replace n7 := n7.step hy
  replace n8 := n8.step hy
  replace hb := hb.step hy
  clear hy
  have gl10 := k10.lt
  generalize w7.heap.size = g10 at *
  have k10_0 := k10.cell 0; have k10_f0 := k10.frozen 0; have k10_1 := k10.cell 1; have k10_f1 := k10.frozen 1; have k10_2 := k10.cell 2; have k10_f2 := k10.frozen 2; simp only [List.set_cons_zero, List.set_cons_succ, List.getElem?_cons_zero, List.getElem?_cons_succ] at k10_0 k10_1 k10_2; have lt_k10 := k10.lt
  clear hP2
  refine (hU1 _ _ n7).mono ?_; rintro e w9 ⟨_, rfl, hn, hy⟩
  replace k3 := k3.step hy; (try clear k3_0 k3_f0 k3_1 k3_f1 k3_2 k3_f2); have k3_0 := k3.cell 0; have k3_f0 := k3.frozen 0; have k3_1 := k3.cell 1; have k3_f1 := k3.frozen 1; have k3_2 := k3.cell 2; have k3_f2 := k3.frozen 2; simp only [List.set_cons_zero, List.set_cons_succ, List.getElem?_cons_zero, List.getElem?_cons_succ] at k3_0 k3_1 k3_2; (try clear lt_k3); have lt_k3 := k3.lt; replace k7 := k7.step hy; (try clear k7_0 k7_f0 k7_1 k7_f1 k7_2 k7_f2); have k7_0 := k7.cell 0; have k7_f0 := k7.frozen 0; have k7_1 := k7.cell 1; have k7_f1 := k7.frozen 1; have k7_2 := k7.cell 2; have k7_f2 := k7.frozen 2; simp only [List.set_cons_zero, List.set_cons_succ, List.getElem?_cons_zero, List.getElem?_cons_succ] at k7_0 k7_1 k7_2; (try clear lt_k7); have lt_k7 := k7.lt; replace k8 := k8.step hy; (try clear k8_0 k8_f0 k8_1 k8_f1 k8_2 k8_f2); have k8_0 := k8.cell 0; have k8_f0 := k8.frozen 0; have k8_1 := k8.cell 1; have k8_f1 := k8.frozen 1; have k8_2 := k8.cell 2; have k8_f2 := k8.frozen 2; simp only [List.set_cons_zero, List.set_cons_succ, List.getElem?_cons_zero, List.getElem?_cons_succ] at k8_0 k8_1 k8_2; (try clear lt_k8); have lt_k8 := k8.lt; replace k10 := k10.step hy; (try clear k10_0 k10_f0 k10_1 k10_f1 k10_2 k10_f2); have k10_0 := k10.cell 0; have k10_f0 := k10.frozen 0; have k10_1 := k10.cell 1; have k10_f1 := k10.frozen 1; have k10_2 := k10.cell 2; have k10_f2 := k10.frozen 2; simp only [List.set_cons_zero, List.set_cons_succ, List.getElem?_cons_zero, List.getElem?_cons_succ] at k10_0 k10_1 k10_2; (try clear lt_k10); have lt_k10 := k10.lt
  replace n3 := n3.step hy
  replace n7 := n7.step hy
  replace n8 := n8.step hy
  replace n10 := n10.step hy
  replace hb := hb.step hy
  clear hy
  obtain ⟨A12, B12, C12, a12, b12, c12, rfl, hq⟩ := hn
  have n12 : CsAt _ (csV A12 B12 C12 a12 b12 c12 du.ns.length du.hs.length du.ts.length) du := CsNew.at_ (b := w8.heap.size) ⟨A12, B12, C12, a12, b12, c12, rfl, hq⟩
  clear hq
  go_wp2_with fail
  generalize hV : World.alloc w9 _ = w10
  have hy : Below w9.heap.size w9 w10 := by subst hV; (repeat (first | with_reducible exact Below.refl _ _ | with_reducible assumption | with_reducible refine Below.drew ?_ | with_reducible refine Below.drewN ?_ _ | with_reducible refine Below.alloc1 ?_ _ | with_reducible refine Below.setCell1 ?_ (by first | omega | (simp; done) | (simp; omega)) _ | with_reducible refine Below.step ?_ (by with_reducible assumption)))
  have k12 : Bk w10 w9.heap.size 30 (csC A12 B12 C12 a12 b12 c12 du.ns.length du.hs.length du.ts.length) := by subst hV; (repeat (first | with_reducible exact Bk.new' _ _ _ _ (by simp; done) | with_reducible assumption | with_reducible refine Bk.alloc ?_ _ | with_reducible refine Bk.drew ?_ | with_reducible refine Bk.drewN ?_ _ | with_reducible refine Bk.step ?_ (by with_reducible assumption) | with_reducible refine Bk.far ?_ (by first | omega | (simp; done) | (simp; omega)) _))
  clear hV
  replace n12 := n12.step hy
  replace k3 := k3.step hy; (try clear k3_0 k3_f0 k3_1 k3_f1 k3_2 k3_f2); have k3_0 := k3.cell 0; have k3_f0 := k3.frozen 0; have k3_1 := k3.cell 1; have k3_f1 := k3.frozen 1; have k3_2 := k3.cell 2; have k3_f2 := k3.frozen 2; simp only [List.set_cons_zero, List.set_cons_succ, List.getElem?_cons_zero, List.getElem?_cons_succ] at k3_0 k3_1 k3_2; (try clear lt_k3); have lt_k3 := k3.lt; replace k7 := k7.step hy; (try clear k7_0 k7_f0 k7_1 k7_f1 k7_2 k7_f2); have k7_0 := k7.cell 0; have k7_f0 := k7.frozen 0; have k7_1 := k7.cell 1; have k7_f1 := k7.frozen 1; have k7_2 := k7.cell 2; have k7_f2 := k7.frozen 2; simp only [List.set_cons_zero, List.set_cons_succ, List.getElem?_cons_zero, List.getElem?_cons_succ] at k7_0 k7_1 k7_2; (try clear lt_k7); have lt_k7 := k7.lt; replace k8 := k8.step hy; (try clear k8_0 k8_f0 k8_1 k8_f1 k8_2 k8_f2); have k8_0 := k8.cell 0; have k8_f0 := k8.frozen 0; have k8_1 := k8.cell 1; have k8_f1 := k8.frozen 1; have k8_2 := k8.cell 2; have k8_f2 := k8.frozen 2; simp only [List.set_cons_zero, List.set_cons_succ, List.getElem?_cons_zero, List.getElem?_cons_succ] at k8_0 k8_1 k8_2; (try clear lt_k8); have lt_k8 := k8.lt; replace k10 := k10.step hy; (try clear k10_0 k10_f0 k10_1 k10_f1 k10_2 k10_f2); have k10_0 := k10.cell 0; have k10_f0 := k10.frozen 0; have k10_1 := k10.cell 1; have k10_f1 := k10.frozen 1; have k10_2 := k10.cell 2; have k10_f2 := k10.frozen 2; simp only [List.set_cons_zero, List.set_cons_succ, List.getElem?_cons_zero, List.getElem?_cons_succ] at k10_0 k10_1 k10_2; (try clear lt_k10); have lt_k10 := k10.lt
  replace n3 := n3.step hy
  replace n7 := n7.step hy
  replace n8 := n8.step hy
  replace n10 := n10.step hy
  replace hb := hb.step hy
  clear hy
  have gl12 := k12.lt
  generalize w9.heap.size = g12 at *
  have k12_0 := k12.cell 0; have k12_f0 := k12.frozen 0; have k12_1 := k12.cell 1; have k12_f1 := k12.frozen 1; have k12_2 := k12.cell 2; have k12_f2 := k12.frozen 2; simp only [List.set_cons_zero, List.set_cons_succ, List.getElem?_cons_zero, List.getElem?_cons_succ] at k12_0 k12_1 k12_2; have lt_k12 := k12.lt
  clear hU1
  refine (hU2 _ _ n3).mono ?_; rintro e w11 ⟨_, rfl, hn, hy⟩
  replace k3 := k3.step hy; (try clear k3_0 k3_f0 k3_1 k3_f1 k3_2 k3_f2); have k3_0 := k3.cell 0; have k3_f0 := k3.frozen 0; have k3_1 := k3.cell 1; have k3_f1 := k3.frozen 1; have k3_2 := k3.cell 2; have k3_f2 := k3.frozen 2; simp only [List.set_cons_zero, List.set_cons_succ, List.getElem?_cons_zero, List.getElem?_cons_succ] at k3_0 k3_1 k3_2; (try clear lt_k3); have lt_k3 := k3.lt; replace k7 := k7.step hy; (try clear k7_0 k7_f0 k7_1 k7_f1 k7_2 k7_f2); have k7_0 := k7.cell 0; have k7_f0 := k7.frozen 0; have k7_1 := k7.cell 1; have k7_f1 := k7.frozen 1; have k7_2 := k7.cell 2; have k7_f2 := k7.frozen 2; simp only [List.set_cons_zero, List.set_cons_succ, List.getElem?_cons_zero, List.getElem?_cons_succ] at k7_0 k7_1 k7_2; (try clear lt_k7); have lt_k7 := k7.lt; replace k8 := k8.step hy; (try clear k8_0 k8_f0 k8_1 k8_f1 k8_2 k8_f2); have k8_0 := k8.cell 0; have k8_f0 := k8.frozen 0; have k8_1 := k8.cell 1; have k8_f1 := k8.frozen 1; have k8_2 := k8.cell 2; have k8_f2 := k8.frozen 2; simp only [List.set_cons_zero, List.set_cons_succ, List.getElem?_cons_zero, List.getElem?_cons_succ] at k8_0 k8_1 k8_2; (try clear lt_k8); have lt_k8 := k8.lt; replace k10 := k10.step hy; (try clear k10_0 k10_f0 k10_1 k10_f1 k10_2 k10_f2); have k10_0 := k10.cell 0; have k10_f0 := k10.frozen 0; have k10_1 := k10.cell 1; have k10_f1 := k10.frozen 1; have k10_2 := k10.cell 2; have k10_f2 := k10.frozen 2; simp only [List.set_cons_zero, List.set_cons_succ, List.getElem?_cons_zero, List.getElem?_cons_succ] at k10_0 k10_1 k10_2; (try clear lt_k10); have lt_k10 := k10.lt; replace k12 := k12.step hy; (try clear k12_0 k12_f0 k12_1 k12_f1 k12_2 k12_f2); have k12_0 := k12.cell 0; have k12_f0 := k12.frozen 0; have k12_1 := k12.cell 1; have k12_f1 := k12.frozen 1; have k12_2 := k12.cell 2; have k12_f2 := k12.frozen 2; simp only [List.set_cons_zero, List.set_cons_succ, List.getElem?_cons_zero, List.getElem?_cons_succ] at k12_0 k12_1 k12_2; (try clear lt_k12); have lt_k12 := k12.lt
  replace n3 := n3.step hy
  replace n7 := n7.step hy
  replace n8 := n8.step hy
  replace n10 := n10.step hy
  replace n12 := n12.step hy
  replace hb := hb.step hy
  clear hy
  obtain ⟨A14, B14, C14, a14, b14, c14, rfl, hq⟩ := hn
  have n14 : CsAt _ (csV A14 B14 C14 a14 b14 c14 du.ns.length du.hs.length du.ts.length) du := ⟨A14, B14, C14, a14, b14, c14, rfl, hq⟩
  clear hq
  go_wp2_with fail
  generalize hV : World.alloc w11 _ = w12
  have hy : Below w11.heap.size w11 w12 := by subst hV; (repeat (first | with_reducible exact Below.refl _ _ | with_reducible assumption | with_reducible refine Below.drew ?_ | with_reducible refine Below.drewN ?_ _ | with_reducible refine Below.alloc1 ?_ _ | with_reducible refine Below.setCell1 ?_ (by first | omega | (simp; done) | (simp; omega)) _ | with_reducible refine Below.step ?_ (by with_reducible assumption)))
  have k14 : Bk w12 w11.heap.size 25 (csC A14 B14 C14 a14 b14 c14 du.ns.length du.hs.length du.ts.length) := by subst hV; (repeat (first | with_reducible exact Bk.new' _ _ _ _ (by simp; done) | with_reducible assumption | with_reducible refine Bk.alloc ?_ _ | with_reducible refine Bk.drew ?_ | with_reducible refine Bk.drewN ?_ _ | with_reducible refine Bk.step ?_ (by with_reducible assumption) | with_reducible refine Bk.far ?_ (by first | omega | (simp; done) | (simp; omega)) _))
  clear hV
  replace n14 := n14.step hy
  replace k3 := k3.step hy; (try clear k3_0 k3_f0 k3_1 k3_f1 k3_2 k3_f2); have k3_0 := k3.cell 0; have k3_f0 := k3.frozen 0; have k3_1 := k3.cell 1; have k3_f1 := k3.frozen 1; have k3_2 := k3.cell 2; have k3_f2 := k3.frozen 2; simp only [List.set_cons_zero, List.set_cons_succ, List.getElem?_cons_zero, List.getElem?_cons_succ] at k3_0 k3_1 k3_2; (try clear lt_k3); have lt_k3 := k3.lt; replace k7 := k7.step hy; (try clear k7_0 k7_f0 k7_1 k7_f1 k7_2 k7_f2); have k7_0 := k7.cell 0; have k7_f0 := k7.frozen 0; have k7_1 := k7.cell 1; have k7_f1 := k7.frozen 1; have k7_2 := k7.cell 2; have k7_f2 := k7.frozen 2; simp only [List.set_cons_zero, List.set_cons_succ, List.getElem?_cons_zero, List.getElem?_cons_succ] at k7_0 k7_1 k7_2; (try clear lt_k7); have lt_k7 := k7.lt; replace k8 := k8.step hy; (try clear k8_0 k8_f0 k8_1 k8_f1 k8_2 k8_f2); have k8_0 := k8.cell 0; have k8_f0 := k8.frozen 0; have k8_1 := k8.cell 1; have k8_f1 := k8.frozen 1; have k8_2 := k8.cell 2; have k8_f2 := k8.frozen 2; simp only [List.set_cons_zero, List.set_cons_succ, List.getElem?_cons_zero, List.getElem?_cons_succ] at k8_0 k8_1 k8_2; (try clear lt_k8); have lt_k8 := k8.lt; replace k10 := k10.step hy; (try clear k10_0 k10_f0 k10_1 k10_f1 k10_2 k10_f2); have k10_0 := k10.cell 0; have k10_f0 := k10.frozen 0; have k10_1 := k10.cell 1; have k10_f1 := k10.frozen 1; have k10_2 := k10.cell 2; have k10_f2 := k10.frozen 2; simp only [List.set_cons_zero, List.set_cons_succ, List.getElem?_cons_zero, List.getElem?_cons_succ] at k10_0 k10_1 k10_2; (try clear lt_k10); have lt_k10 := k10.lt; replace k12 := k12.step hy; (try clear k12_0 k12_f0 k12_1 k12_f1 k12_2 k12_f2); have k12_0 := k12.cell 0; have k12_f0 := k12.frozen 0; have k12_1 := k12.cell 1; have k12_f1 := k12.frozen 1; have k12_2 := k12.cell 2; have k12_f2 := k12.frozen 2; simp only [List.set_cons_zero, List.set_cons_succ, List.getElem?_cons_zero, List.getElem?_cons_succ] at k12_0 k12_1 k12_2; (try clear lt_k12); have lt_k12 := k12.lt
  replace n3 := n3.step hy
  replace n7 := n7.step hy
  replace n8 := n8.step hy
  replace n10 := n10.step hy
  replace n12 := n12.step hy
  replace hb := hb.step hy
  clear hy
  have gl14 := k14.lt
  generalize w11.heap.size = g14 at *
  have k14_0 := k14.cell 0; have k14_f0 := k14.frozen 0; have k14_1 := k14.cell 1; have k14_f1 := k14.frozen 1; have k14_2 := k14.cell 2; have k14_f2 := k14.frozen 2; simp only [List.set_cons_zero, List.set_cons_succ, List.getElem?_cons_zero, List.getElem?_cons_succ] at k14_0 k14_1 k14_2; have lt_k14 := k14.lt
  clear hU2
  refine (hS1 _ _ n7).mono ?_; rintro e w13 ⟨_, rfl, hn, hy⟩
  replace k3 := k3.step hy; (try clear k3_0 k3_f0 k3_1 k3_f1 k3_2 k3_f2); have k3_0 := k3.cell 0; have k3_f0 := k3.frozen 0; have k3_1 := k3.cell 1; have k3_f1 := k3.frozen 1; have k3_2 := k3.cell 2; have k3_f2 := k3.frozen 2; simp only [List.set_cons_zero, List.set_cons_succ, List.getElem?_cons_zero, List.getElem?_cons_succ] at k3_0 k3_1 k3_2; (try clear lt_k3); have lt_k3 := k3.lt; replace k7 := k7.step hy; (try clear k7_0 k7_f0 k7_1 k7_f1 k7_2 k7_f2); have k7_0 := k7.cell 0; have k7_f0 := k7.frozen 0; have k7_1 := k7.cell 1; have k7_f1 := k7.frozen 1; have k7_2 := k7.cell 2; have k7_f2 := k7.frozen 2; simp only [List.set_cons_zero, List.set_cons_succ, List.getElem?_cons_zero, List.getElem?_cons_succ] at k7_0 k7_1 k7_2; (try clear lt_k7); have lt_k7 := k7.lt; replace k8 := k8.step hy; (try clear k8_0 k8_f0 k8_1 k8_f1 k8_2 k8_f2); have k8_0 := k8.cell 0; have k8_f0 := k8.frozen 0; have k8_1 := k8.cell 1; have k8_f1 := k8.frozen 1; have k8_2 := k8.cell 2; have k8_f2 := k8.frozen 2; simp only [List.set_cons_zero, List.set_cons_succ, List.getElem?_cons_zero, List.getElem?_cons_succ] at k8_0 k8_1 k8_2; (try clear lt_k8); have lt_k8 := k8.lt; replace k10 := k10.step hy; (try clear k10_0 k10_f0 k10_1 k10_f1 k10_2 k10_f2); have k10_0 := k10.cell 0; have k10_f0 := k10.frozen 0; have k10_1 := k10.cell 1; have k10_f1 := k10.frozen 1; have k10_2 := k10.cell 2; have k10_f2 := k10.frozen 2; simp only [List.set_cons_zero, List.set_cons_succ, List.getElem?_cons_zero, List.getElem?_cons_succ] at k10_0 k10_1 k10_2; (try clear lt_k10); have lt_k10 := k10.lt; replace k12 := k12.step hy; (try clear k12_0 k12_f0 k12_1 k12_f1 k12_2 k12_f2); have k12_0 := k12.cell 0; have k12_f0 := k12.frozen 0; have k12_1 := k12.cell 1; have k12_f1 := k12.frozen 1; have k12_2 := k12.cell 2; have k12_f2 := k12.frozen 2; simp only [List.set_cons_zero, List.set_cons_succ, List.getElem?_cons_zero, List.getElem?_cons_succ] at k12_0 k12_1 k12_2; (try clear lt_k12); have lt_k12 := k12.lt; replace k14 := k14.step hy; (try clear k14_0 k14_f0 k14_1 k14_f1 k14_2 k14_f2); have k14_0 := k14.cell 0; have k14_f0 := k14.frozen 0; have k14_1 := k14.cell 1; have k14_f1 := k14.frozen 1; have k14_2 := k14.cell 2; have k14_f2 := k14.frozen 2; simp only [List.set_cons_zero, List.set_cons_succ, List.getElem?_cons_zero, List.getElem?_cons_succ] at k14_0 k14_1 k14_2; (try clear lt_k14); have lt_k14 := k14.lt
  replace n3 := n3.step hy
  replace n7 := n7.step hy
  replace n8 := n8.step hy
  replace n10 := n10.step hy
  replace n12 := n12.step hy
  replace n14 := n14.step hy
  replace hb := hb.step hy
  clear hy
  obtain ⟨A16, B16, C16, a16, b16, c16, rfl, hq⟩ := hn
  have n16 : CsAt _ (csV A16 B16 C16 a16 b16 c16 ds.ns.length ds.hs.length ds.ts.length) ds := CsNew.at_ (b := w12.heap.size) ⟨A16, B16, C16, a16, b16, c16, rfl, hq⟩
  clear hq
  go_wp2_with fail
  generalize hV : World.alloc w13 _ = w14
  have hy : Below w13.heap.size w13 w14 := by subst hV; (repeat (first | with_reducible exact Below.refl _ _ | with_reducible assumption | with_reducible refine Below.drew ?_ | with_reducible refine Below.drewN ?_ _ | with_reducible refine Below.alloc1 ?_ _ | with_reducible refine Below.setCell1 ?_ (by first | omega | (simp; done) | (simp; omega)) _ | with_reducible refine Below.step ?_ (by with_reducible assumption)))
  have k16 : Bk w14 w13.heap.size 30 (csC A16 B16 C16 a16 b16 c16 ds.ns.length ds.hs.length ds.ts.length) := by subst hV; (repeat (first | with_reducible exact Bk.new' _ _ _ _ (by simp; done) | with_reducible assumption | with_reducible refine Bk.alloc ?_ _ | with_reducible refine Bk.drew ?_ | with_reducible refine Bk.drewN ?_ _ | with_reducible refine Bk.step ?_ (by with_reducible assumption) | with_reducible refine Bk.far ?_ (by first | omega | (simp; done) | (simp; omega)) _))
  clear hV
  replace n16 := n16.step hy
  replace k3 := k3.step hy; (try clear k3_0 k3_f0 k3_1 k3_f1 k3_2 k3_f2); have k3_0 := k3.cell 0; have k3_f0 := k3.frozen 0; have k3_1 := k3.cell 1; have k3_f1 := k3.frozen 1; have k3_2 := k3.cell 2; have k3_f2 := k3.frozen 2; simp only [List.set_cons_zero, List.set_cons_succ, List.getElem?_cons_zero, List.getElem?_cons_succ] at k3_0 k3_1 k3_2; (try clear lt_k3); have lt_k3 := k3.lt; replace k7 := k7.step hy; (try clear k7_0 k7_f0 k7_1 k7_f1 k7_2 k7_f2); have k7_0 := k7.cell 0; have k7_f0 := k7.frozen 0; have k7_1 := k7.cell 1; have k7_f1 := k7.frozen 1; have k7_2 := k7.cell 2; have k7_f2 := k7.frozen 2; simp only [List.set_cons_zero, List.set_cons_succ, List.getElem?_cons_zero, List.getElem?_cons_succ] at k7_0 k7_1 k7_2; (try clear lt_k7); have lt_k7 := k7.lt; replace k8 := k8.step hy; (try clear k8_0 k8_f0 k8_1 k8_f1 k8_2 k8_f2); have k8_0 := k8.cell 0; have k8_f0 := k8.frozen 0; have k8_1 := k8.cell 1; have k8_f1 := k8.frozen 1; have k8_2 := k8.cell 2; have k8_f2 := k8.frozen 2; simp only [List.set_cons_zero, List.set_cons_succ, List.getElem?_cons_zero, List.getElem?_cons_succ] at k8_0 k8_1 k8_2; (try clear lt_k8); have lt_k8 := k8.lt; replace k10 := k10.step hy; (try clear k10_0 k10_f0 k10_1 k10_f1 k10_2 k10_f2); have k10_0 := k10.cell 0; have k10_f0 := k10.frozen 0; have k10_1 := k10.cell 1; have k10_f1 := k10.frozen 1; have k10_2 := k10.cell 2; have k10_f2 := k10.frozen 2; simp only [List.set_cons_zero, List.set_cons_succ, List.getElem?_cons_zero, List.getElem?_cons_succ] at k10_0 k10_1 k10_2; (try clear lt_k10); have lt_k10 := k10.lt; replace k12 := k12.step hy; (try clear k12_0 k12_f0 k12_1 k12_f1 k12_2 k12_f2); have k12_0 := k12.cell 0; have k12_f0 := k12.frozen 0; have k12_1 := k12.cell 1; have k12_f1 := k12.frozen 1; have k12_2 := k12.cell 2; have k12_f2 := k12.frozen 2; simp only [List.set_cons_zero, List.set_cons_succ, List.getElem?_cons_zero, List.getElem?_cons_succ] at k12_0 k12_1 k12_2; (try clear lt_k12); have lt_k12 := k12.lt; replace k14 := k14.step hy; (try clear k14_0 k14_f0 k14_1 k14_f1 k14_2 k14_f2); have k14_0 := k14.cell 0; have k14_f0 := k14.frozen 0; have k14_1 := k14.cell 1; have k14_f1 := k14.frozen 1; have k14_2 := k14.cell 2; have k14_f2 := k14.frozen 2; simp only [List.set_cons_zero, List.set_cons_succ, List.getElem?_cons_zero, List.getElem?_cons_succ] at k14_0 k14_1 k14_2; (try clear lt_k14); have lt_k14 := k14.lt
  replace n3 := n3.step hy
  replace n7 := n7.step hy
  replace n8 := n8.step hy
  replace n10 := n10.step hy
  replace n12 := n12.step hy
  replace n14 := n14.step hy
  replace hb := hb.step hy
  clear hy
  have gl16 := k16.lt
  generalize w13.heap.size = g16 at *
  have k16_0 := k16.cell 0; have k16_f0 := k16.frozen 0; have k16_1 := k16.cell 1; have k16_f1 := k16.frozen 1; have k16_2 := k16.cell 2; have k16_f2 := k16.frozen 2; simp only [List.set_cons_zero, List.set_cons_succ, List.getElem?_cons_zero, List.getElem?_cons_succ] at k16_0 k16_1 k16_2; have lt_k16 := k16.lt
  clear hS1
  refine (hS2 _ _ n3).mono ?_; rintro e w15 ⟨_, rfl, hn, hy⟩
  replace k3 := k3.step hy; (try clear k3_0 k3_f0 k3_1 k3_f1 k3_2 k3_f2); have k3_0 := k3.cell 0; have k3_f0 := k3.frozen 0; have k3_1 := k3.cell 1; have k3_f1 := k3.frozen 1; have k3_2 := k3.cell 2; have k3_f2 := k3.frozen 2; simp only [List.set_cons_zero, List.set_cons_succ, List.getElem?_cons_zero, List.getElem?_cons_succ] at k3_0 k3_1 k3_2; (try clear lt_k3); have lt_k3 := k3.lt; replace k7 := k7.step hy; (try clear k7_0 k7_f0 k7_1 k7_f1 k7_2 k7_f2); have k7_0 := k7.cell 0; have k7_f0 := k7.frozen 0; have k7_1 := k7.cell 1; have k7_f1 := k7.frozen 1; have k7_2 := k7.cell 2; have k7_f2 := k7.frozen 2; simp only [List.set_cons_zero, List.set_cons_succ, List.getElem?_cons_zero, List.getElem?_cons_succ] at k7_0 k7_1 k7_2; (try clear lt_k7); have lt_k7 := k7.lt; replace k8 := k8.step hy; (try clear k8_0 k8_f0 k8_1 k8_f1 k8_2 k8_f2); have k8_0 := k8.cell 0; have k8_f0 := k8.frozen 0; have k8_1 := k8.cell 1; have k8_f1 := k8.frozen 1; have k8_2 := k8.cell 2; have k8_f2 := k8.frozen 2; simp only [List.set_cons_zero, List.set_cons_succ, List.getElem?_cons_zero, List.getElem?_cons_succ] at k8_0 k8_1 k8_2; (try clear lt_k8); have lt_k8 := k8.lt; replace k10 := k10.step hy; (try clear k10_0 k10_f0 k10_1 k10_f1 k10_2 k10_f2); have k10_0 := k10.cell 0; have k10_f0 := k10.frozen 0; have k10_1 := k10.cell 1; have k10_f1 := k10.frozen 1; have k10_2 := k10.cell 2; have k10_f2 := k10.frozen 2; simp only [List.set_cons_zero, List.set_cons_succ, List.getElem?_cons_zero, List.getElem?_cons_succ] at k10_0 k10_1 k10_2; (try clear lt_k10); have lt_k10 := k10.lt; replace k12 := k12.step hy; (try clear k12_0 k12_f0 k12_1 k12_f1 k12_2 k12_f2); have k12_0 := k12.cell 0; have k12_f0 := k12.frozen 0; have k12_1 := k12.cell 1; have k12_f1 := k12.frozen 1; have k12_2 := k12.cell 2; have k12_f2 := k12.frozen 2; simp only [List.set_cons_zero, List.set_cons_succ, List.getElem?_cons_zero, List.getElem?_cons_succ] at k12_0 k12_1 k12_2; (try clear lt_k12); have lt_k12 := k12.lt; replace k14 := k14.step hy; (try clear k14_0 k14_f0 k14_1 k14_f1 k14_2 k14_f2); have k14_0 := k14.cell 0; have k14_f0 := k14.frozen 0; have k14_1 := k14.cell 1; have k14_f1 := k14.frozen 1; have k14_2 := k14.cell 2; have k14_f2 := k14.frozen 2; simp only [List.set_cons_zero, List.set_cons_succ, List.getElem?_cons_zero, List.getElem?_cons_succ] at k14_0 k14_1 k14_2; (try clear lt_k14); have lt_k14 := k14.lt; replace k16 := k16.step hy; (try clear k16_0 k16_f0 k16_1 k16_f1 k16_2 k16_f2); have k16_0 := k16.cell 0; have k16_f0 := k16.frozen 0; have k16_1 := k16.cell 1; have k16_f1 := k16.frozen 1; have k16_2 := k16.cell 2; have k16_f2 := k16.frozen 2; simp only [List.set_cons_zero, List.set_cons_succ, List.getElem?_cons_zero, List.getElem?_cons_succ] at k16_0 k16_1 k16_2; (try clear lt_k16); have lt_k16 := k16.lt
  replace n3 := n3.step hy
  replace n7 := n7.step hy
  replace n8 := n8.step hy
  replace n10 := n10.step hy
  replace n12 := n12.step hy
  replace n14 := n14.step hy
  replace n16 := n16.step hy
  replace hb := hb.step hy
  clear hy
  obtain ⟨A18, B18, C18, a18, b18, c18, rfl, hq⟩ := hn
  have n18 : CsAt _ (csV A18 B18 C18 a18 b18 c18 ds.ns.length ds.hs.length ds.ts.length) ds := ⟨A18, B18, C18, a18, b18, c18, rfl, hq⟩
  clear hq
  go_wp2_with fail
  generalize hV : World.alloc w15 _ = w16
  have hy : Below w15.heap.size w15 w16 := by subst hV; (repeat (first | with_reducible exact Below.refl _ _ | with_reducible assumption | with_reducible refine Below.drew ?_ | with_reducible refine Below.drewN ?_ _ | with_reducible refine Below.alloc1 ?_ _ | with_reducible refine Below.setCell1 ?_ (by first | omega | (simp; done) | (simp; omega)) _ | with_reducible refine Below.step ?_ (by with_reducible assumption)))
  have k18 : Bk w16 w15.heap.size 25 (csC A18 B18 C18 a18 b18 c18 ds.ns.length ds.hs.length ds.ts.length) := by subst hV; (repeat (first | with_reducible exact Bk.new' _ _ _ _ (by simp; done) | with_reducible assumption | with_reducible refine Bk.alloc ?_ _ | with_reducible refine Bk.drew ?_ | with_reducible refine Bk.drewN ?_ _ | with_reducible refine Bk.step ?_ (by with_reducible assumption) | with_reducible refine Bk.far ?_ (by first | omega | (simp; done) | (simp; omega)) _))
  clear hV
  replace n18 := n18.step hy
  replace k3 := k3.step hy; (try clear k3_0 k3_f0 k3_1 k3_f1 k3_2 k3_f2); have k3_0 := k3.cell 0; have k3_f0 := k3.frozen 0; have k3_1 := k3.cell 1; have k3_f1 := k3.frozen 1; have k3_2 := k3.cell 2; have k3_f2 := k3.frozen 2; simp only [List.set_cons_zero, List.set_cons_succ, List.getElem?_cons_zero, List.getElem?_cons_succ] at k3_0 k3_1 k3_2; (try clear lt_k3); have lt_k3 := k3.lt; replace k7 := k7.step hy; (try clear k7_0 k7_f0 k7_1 k7_f1 k7_2 k7_f2); have k7_0 := k7.cell 0; have k7_f0 := k7.frozen 0; have k7_1 := k7.cell 1; have k7_f1 := k7.frozen 1; have k7_2 := k7.cell 2; have k7_f2 := k7.frozen 2; simp only [List.set_cons_zero, List.set_cons_succ, List.getElem?_cons_zero, List.getElem?_cons_succ] at k7_0 k7_1 k7_2; (try clear lt_k7); have lt_k7 := k7.lt; replace k8 := k8.step hy; (try clear k8_0 k8_f0 k8_1 k8_f1 k8_2 k8_f2); have k8_0 := k8.cell 0; have k8_f0 := k8.frozen 0; have k8_1 := k8.cell 1; have k8_f1 := k8.frozen 1; have k8_2 := k8.cell 2; have k8_f2 := k8.frozen 2; simp only [List.set_cons_zero, List.set_cons_succ, List.getElem?_cons_zero, List.getElem?_cons_succ] at k8_0 k8_1 k8_2; (try clear lt_k8); have lt_k8 := k8.lt; replace k10 := k10.step hy; (try clear k10_0 k10_f0 k10_1 k10_f1 k10_2 k10_f2); have k10_0 := k10.cell 0; have k10_f0 := k10.frozen 0; have k10_1 := k10.cell 1; have k10_f1 := k10.frozen 1; have k10_2 := k10.cell 2; have k10_f2 := k10.frozen 2; simp only [List.set_cons_zero, List.set_cons_succ, List.getElem?_cons_zero, List.getElem?_cons_succ] at k10_0 k10_1 k10_2; (try clear lt_k10); have lt_k10 := k10.lt; replace k12 := k12.step hy; (try clear k12_0 k12_f0 k12_1 k12_f1 k12_2 k12_f2); have k12_0 := k12.cell 0; have k12_f0 := k12.frozen 0; have k12_1 := k12.cell 1; have k12_f1 := k12.frozen 1; have k12_2 := k12.cell 2; have k12_f2 := k12.frozen 2; simp only [List.set_cons_zero, List.set_cons_succ, List.getElem?_cons_zero, List.getElem?_cons_succ] at k12_0 k12_1 k12_2; (try clear lt_k12); have lt_k12 := k12.lt; replace k14 := k14.step hy; (try clear k14_0 k14_f0 k14_1 k14_f1 k14_2 k14_f2); have k14_0 := k14.cell 0; have k14_f0 := k14.frozen 0; have k14_1 := k14.cell 1; have k14_f1 := k14.frozen 1; have k14_2 := k14.cell 2; have k14_f2 := k14.frozen 2; simp only [List.set_cons_zero, List.set_cons_succ, List.getElem?_cons_zero, List.getElem?_cons_succ] at k14_0 k14_1 k14_2; (try clear lt_k14); have lt_k14 := k14.lt; replace k16 := k16.step hy; (try clear k16_0 k16_f0 k16_1 k16_f1 k16_2 k16_f2); have k16_0 := k16.cell 0; have k16_f0 := k16.frozen 0; have k16_1 := k16.cell 1; have k16_f1 := k16.frozen 1; have k16_2 := k16.cell 2; have k16_f2 := k16.frozen 2; simp only [List.set_cons_zero, List.set_cons_succ, List.getElem?_cons_zero, List.getElem?_cons_succ] at k16_0 k16_1 k16_2; (try clear lt_k16); have lt_k16 := k16.lt
  replace n3 := n3.step hy
  replace n7 := n7.step hy
  replace n8 := n8.step hy
  replace n10 := n10.step hy
  replace n12 := n12.step hy
  replace n14 := n14.step hy
  replace n16 := n16.step hy
  replace hb := hb.step hy
  clear hy
  have gl18 := k18.lt
  generalize w15.heap.size = g18 at *
  have k18_0 := k18.cell 0; have k18_f0 := k18.frozen 0; have k18_1 := k18.cell 1; have k18_f1 := k18.frozen 1; have k18_2 := k18.cell 2; have k18_f2 := k18.frozen 2; simp only [List.set_cons_zero, List.set_cons_succ, List.getElem?_cons_zero, List.getElem?_cons_succ] at k18_0 k18_1 k18_2; have lt_k18 := k18.lt
  clear hS2
  try dsimp only [List.append]
  have mP := fun V W h => law04_back_at V dp W HP.out.1 HP.out.2.1 HP.out.2.2 h
  have mU := fun V W h => law04_back_at V du W HU.out.1 HU.out.2.1 HU.out.2.2 h
  have mS := fun V W h => law04_back_at V ds W HS.out.1 HS.out.2.1 HS.out.2.2 h
  have mT := fun V W h => law04_back_at V dt W HT.out.1 HT.out.2.1 HT.out.2.2 h
  have mL := fun V W h => law04_back_at V st W HL.out.1 HL.out.2.1 HL.out.2.2 h
  have eP := fun V V' W h h' => r04_Same_at V V' dp dp W HP.out.1 HP.out.2.1 HP.out.2.2 h h'
  have eU := fun V V' W h h' => r04_Same_at V V' du du W HU.out.1 HU.out.2.1 HU.out.2.2 h h'
  have eS := fun V V' W h h' => r04_Same_at V V' ds ds W HS.out.1 HS.out.2.1 HS.out.2.2 h h'
  have eT := fun V V' W h h' => r04_Same_at V V' dt dt W HT.out.1 HT.out.2.1 HT.out.2.2 h h'
  have eL := fun V V' W h h' => r04_Same_at V V' st st W HL.out.1 HL.out.2.1 HL.out.2.2 h h'
  rw [cSame_self] at eP eU eS eT eL
  clear HP HU HS HT HL
  refine wp_region_m [(1, CsA dp), (3, only (.bool true)), (11, CsA du), (13, only (.bool true)), (22, CsA ds), (24, only (.bool true)), (34, CsA dt), (35, CsA dt), (38, CsA dt), (39, only (.bool true)), (43, CsA st), (45, only (.bool true)), (48, only (.bool true))] (by kernel_rfl) (lexB_of_fast (by kernel_rfl)) (by kernel_rfl) (by kernel_rfl) (sts_cons (sts_csA _) (sts_cons (sts_only _) (sts_cons (sts_csA _) (sts_cons (sts_only _) (sts_cons (sts_csA _) (sts_cons (sts_only _) (sts_cons (sts_csA _) (sts_cons (sts_csA _) (sts_cons (sts_csA _) (sts_cons (sts_only _) (sts_cons (sts_csA _) (sts_cons (sts_only _) (sts_cons (sts_only _) sts_nil))))))))))))) (fun kq => ?_); (try dsimp only [List.append])
  (repeat (refine wpM_via (by kernel_rfl) ?_; go_big_quiet_step (fail); refine wpQuiet_nil ?_))
  (refine wpM_spec _ (CsA dp) (by kernel_rfl) (by kernel_rfl) rfl (later_some _) ?_ ?_; (focus (intro x hx hk; obtain ⟨px, rfl⟩ := hx; go_simp; (first | with_reducible refine mUpon_enter ?_ | with_reducible refine mUpon_value ?_); go_at_call 17; exact Calls.mcsA (mP _ _ (n8.step (below_regrown w16 _ _))))); intro v hv K hK; obtain ⟨D1, D2, D3, dxa, dxb, dxc, rfl⟩ := hv; go_big_quiet_op; refine hK _ ?_; clear hK K)
  (repeat (refine wpM_via (by kernel_rfl) ?_; go_big_quiet_step (fail); refine wpQuiet_nil ?_))
  (refine wpM_only _ (.bool true) (by kernel_rfl) (by kernel_rfl) rfl (later_some _) ?_ ?_; (focus (intro x hx hk; obtain ⟨px, rfl⟩ := hx; go_simp; (first | with_reducible refine mUpon_enter ?_ | with_reducible refine mUpon_value ?_); go_at_call 16; exact (eP _ _ _ (hk.1 (by kernel_rfl)) (n10.step (below_regrown w16 _ _))).mo)); intro K hK; go_big_quiet_op; refine hK _ ?_; clear hK K)
  (repeat (refine wpM_via (by kernel_rfl) ?_; go_big_quiet_step (fail); refine wpQuiet_nil ?_))
  (refine wpM_spec _ (CsA du) (by kernel_rfl) (by kernel_rfl) rfl (later_some _) ?_ ?_; (focus (intro x hx hk; obtain ⟨px, rfl⟩ := hx; go_simp; (first | with_reducible refine mUpon_enter ?_ | with_reducible refine mUpon_value ?_); go_at_call 17; exact Calls.mcsA (mU _ _ (n12.step (below_regrown w16 _ _))))); intro v hv K hK; obtain ⟨E1, E2, E3, exa, exb, exc, rfl⟩ := hv; go_big_quiet_op; refine hK _ ?_; clear hK K)
  (repeat (refine wpM_via (by kernel_rfl) ?_; go_big_quiet_step (fail); refine wpQuiet_nil ?_))
  (refine wpM_only _ (.bool true) (by kernel_rfl) (by kernel_rfl) rfl (later_some _) ?_ ?_; (focus (intro x hx hk; obtain ⟨px, rfl⟩ := hx; go_simp; (first | with_reducible refine mUpon_enter ?_ | with_reducible refine mUpon_value ?_); go_at_call 16; exact (eU _ _ _ (hk.1 (by kernel_rfl)) (n14.step (below_regrown w16 _ _))).mo)); intro K hK; go_big_quiet_op; refine hK _ ?_; clear hK K)
  (repeat (refine wpM_via (by kernel_rfl) ?_; go_big_quiet_step (fail); refine wpQuiet_nil ?_))
  (refine wpM_spec _ (CsA ds) (by kernel_rfl) (by kernel_rfl) rfl (later_some _) ?_ ?_; (focus (intro x hx hk; obtain ⟨px, rfl⟩ := hx; go_simp; (first | with_reducible refine mUpon_enter ?_ | with_reducible refine mUpon_value ?_); go_at_call 17; exact Calls.mcsA (mS _ _ (n16.step (below_regrown w16 _ _))))); intro v hv K hK; obtain ⟨F1, F2, F3, fxa, fxb, fxc, rfl⟩ := hv; go_big_quiet_op; refine hK _ ?_; clear hK K)
  (repeat (refine wpM_via (by kernel_rfl) ?_; go_big_quiet_step (fail); refine wpQuiet_nil ?_))
  (refine wpM_only _ (.bool true) (by kernel_rfl) (by kernel_rfl) rfl (later_some _) ?_ ?_; (focus (intro x hx hk; obtain ⟨px, rfl⟩ := hx; go_simp; (first | with_reducible refine mUpon_enter ?_ | with_reducible refine mUpon_value ?_); go_at_call 16; exact (eS _ _ _ (hk.1 (by kernel_rfl)) (n18.step (below_regrown w16 _ _))).mo)); intro K hK; go_big_quiet_op; refine hK _ ?_; clear hK K)
  (repeat (refine wpM_via (by kernel_rfl) ?_; go_big_quiet_step (fail); refine wpQuiet_nil ?_))
  (refine wpM_spec _ (CsA dt) (by kernel_rfl) (by kernel_rfl) rfl (later_some _) ?_ ?_; (focus (intro x hx hk; obtain ⟨px, rfl⟩ := hx; go_simp; (first | with_reducible refine mUpon_enter ?_ | with_reducible refine mUpon_value ?_); go_at_call 18; exact Calls.mcsA ((hT1 _ _ (n7.step (below_regrown w16 _ _))).mono fun _ _ ⟨V, e, h, b⟩ => ⟨V, e, h.at_, b⟩))); intro v hv K hK; obtain ⟨G1, G2, G3, gxa, gxb, gxc, rfl⟩ := hv; go_big_quiet_op; refine hK _ ?_; clear hK K)
  (repeat (refine wpM_via (by kernel_rfl) ?_; go_big_quiet_step (fail); refine wpQuiet_nil ?_))
  (refine wpM_spec _ (CsA dt) (by kernel_rfl) (by kernel_rfl) rfl (later_some _) ?_ ?_; (focus (intro x hx hk; obtain ⟨px, rfl⟩ := hx; go_simp; (first | with_reducible refine mUpon_enter ?_ | with_reducible refine mUpon_value ?_); go_at_call 17; exact Calls.mcsA (mT _ _ (hk.1 (by kernel_rfl))))); intro v hv K hK; obtain ⟨H1, H2, H3, hxa, hxb, hxc, rfl⟩ := hv; go_big_quiet_op; refine hK _ ?_; clear hK K)
  (repeat (refine wpM_via (by kernel_rfl) ?_; go_big_quiet_step (fail); refine wpQuiet_nil ?_))
  (refine wpM_spec _ (CsA dt) (by kernel_rfl) (by kernel_rfl) rfl (later_some _) ?_ ?_; (focus (intro x hx hk; obtain ⟨px, rfl⟩ := hx; go_simp; (first | with_reducible refine mUpon_enter ?_ | with_reducible refine mUpon_value ?_); go_at_call 19; exact Calls.mcsA (hT2 _ _ (n3.step (below_regrown w16 _ _))))); intro v hv K hK; obtain ⟨I1, I2, I3, ixa, ixb, ixc, rfl⟩ := hv; go_big_quiet_op; refine hK _ ?_; clear hK K)
  (repeat (refine wpM_via (by kernel_rfl) ?_; go_big_quiet_step (fail); refine wpQuiet_nil ?_))
  (refine wpM_only _ (.bool true) (by kernel_rfl) (by kernel_rfl) rfl (later_some _) ?_ ?_; (focus (intro x hx hk; obtain ⟨px, rfl⟩ := hx; go_simp; (first | with_reducible refine mUpon_enter ?_ | with_reducible refine mUpon_value ?_); go_at_call 16; exact (eT _ _ _ (hk.2.1 (by kernel_rfl)) (hk.1 (by kernel_rfl))).mo)); intro K hK; go_big_quiet_op; refine hK _ ?_; clear hK K)
  (repeat (refine wpM_via (by kernel_rfl) ?_; go_big_quiet_step (fail); refine wpQuiet_nil ?_))
  (refine wpM_spec _ (CsA st) (by kernel_rfl) (by kernel_rfl) rfl (later_some _) ?_ ?_; (focus (intro x hx hk; obtain ⟨px, rfl⟩ := hx; go_simp; (first | with_reducible refine mUpon_enter ?_ | with_reducible refine mUpon_value ?_); go_at_call 17; exact Calls.mcsA (mL _ _ (n7.step (below_regrown w16 _ _))))); intro v hv K hK; obtain ⟨J1, J2, J3, jxa, jxb, jxc, rfl⟩ := hv; go_big_quiet_op; refine hK _ ?_; clear hK K)
  (repeat (refine wpM_via (by kernel_rfl) ?_; go_big_quiet_step (fail); refine wpQuiet_nil ?_))
  (refine wpM_only _ (.bool true) (by kernel_rfl) (by kernel_rfl) rfl (later_some _) ?_ ?_; (focus (intro x hx hk; obtain ⟨px, rfl⟩ := hx; go_simp; (first | with_reducible refine mUpon_enter ?_ | with_reducible refine mUpon_value ?_); go_at_call 16; exact (eL _ _ _ (hk.1 (by kernel_rfl)) (n3.step (below_regrown w16 _ _))).mo)); intro K hK; go_big_quiet_op; refine hK _ ?_; clear hK K)
  (repeat (refine wpM_via (by kernel_rfl) ?_; go_big_quiet_step (fail); refine wpQuiet_nil ?_))
  (refine wpM_only _ (.bool true) (by kernel_rfl) (by kernel_rfl) rfl (later_some _) ?_ ?_; (focus (intro x hx hk; obtain ⟨px, rfl⟩ := hx; go_simp; (first | with_reducible refine mUpon_enter ?_ | with_reducible refine mUpon_value ?_); go_at_call 8; exact (awake04_any _).mo)); intro K hK; go_big_quiet_op; refine hK _ ?_; clear hK K)
  (repeat (refine wpM_via (by kernel_rfl) ?_; go_big_quiet_step (fail); refine wpQuiet_nil ?_))
  refine wpM_nil ?_; intro wq hwq hfq; have hbq := below_of_class hwq; clear hwq kq; (try dsimp only [List.drop])
  go_wp2
  go_ret
  exact ⟨rfl, hb.step hbq⟩
end Go.Proofs.Ythicpjfdljgfpaa
