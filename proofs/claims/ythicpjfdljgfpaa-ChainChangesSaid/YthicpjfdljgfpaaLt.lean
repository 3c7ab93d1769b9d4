/- callboylaw04: ChainTells' walk. -/
import Derived.Test.YthicpjfdljgfpaaRef04i
import Derived.Test.YthicpjfdljgfpaaAw04
import Derived.Test.YthicpjfdljgfpaaRel5
import Derived.Test.YthicpjfdljgfpaaRel2
namespace Go.Proofs.Ythicpjfdljgfpaa
open Go.RowKit Go.Sort
set_option linter.unusedSimpArgs false
set_option linter.unusedVariables false

theorem walkR_len (st : Ch) (list : Int) : (cWalkR st list).length ≤ st.ns.length + 1 := by
  unfold cWalkR
  split
  · simp
  split
  · simp
  · unfold cWalk
    have : ∀ (f : Nat) (x : Int), (cGo st.ns f x).length ≤ f := by
      intro f
      induction f with
      | zero => intro x; simp [cGo]
      | succ f ih => intro x; rw [cGo]; split <;> simp; exact ih _
    exact this _ _
theorem ints_same (O1 O2 : Option Addr) (c1 c2 : Nat) (R : List Nat) (w : World) (hl : R.length ≤ 1001) (h1 : Rd w w.heap.size O1 (ints (nI R))) (h2 : Rd w w.heap.size O2 (ints (nI R))) :
    Calls Try.prog 24 #[.slice O1 R.length c1, .slice O2 R.length c2] w fun e w' => e = .returned (.bool true) ∧ Below w.heap.size w w' := by
  have h := SameInts_any O1 O2 c1 c2 (nI R) (nI R) w (by unfold maxLen; simp; omega) h1 h2
  rw [show decide (nI R = nI R) = true by simp, show (nI R).length = R.length by simp] at h
  exact h.mono fun _ _ ⟨e, q⟩ => ⟨e, qt_below q⟩
theorem r04_Check_at (V : Value) (st : Ch) (w : World) (h1 : st.ns.length ≤ 1000) (h2 : st.hs.length ≤ 1000) (h3 : st.ts.length ≤ 1000) (h : CsAt w V st) : Calls Try.prog 23 #[V] w fun e w' => e = .returned (.int .i64 (cCheck st)) ∧ Below w.heap.size w w' := by
  obtain ⟨A, B, C, a, b, c, rfl, r1, r2, r3⟩ := h
  exact r04_Check_any A B C a b c st w h1 h2 h3 r1 r2 r3
/-- a state that a region's operation yields -/
def CsA (st : Ch) : MSp := ⟨fun v => ∃ A B C a' b' c', v = csV A B C a' b' c' st.ns.length st.hs.length st.ts.length, fun v w => CsAt w v st⟩
theorem sts_csA (st : Ch) : ∀ v, Stays ((CsA st).S v) := fun v w w' h hb => h.step hb
theorem _root_.Go.Calls.mcsA {P : Program} {f : FuncId} {args : Array Value} {w : World} {st : Ch} (h : Calls P f args w fun e w' => ∃ V, e = .returned V ∧ CsAt w' V st ∧ Below w.heap.size w w') : Calls P f args w (mPost (CsA st) w) :=
  h.mono fun _ _ ⟨V, e, c, k⟩ => by
    obtain ⟨A, B, C, a', b', c', e2, r⟩ := c
    subst e2
    exact ⟨_, e, ⟨A, B, C, a', b', c', rfl⟩, ⟨A, B, C, a', b', c', rfl, r⟩, k⟩
theorem few_t {st : Ch} (h : st.ns.length ≤ 70 ∧ st.hs.length ≤ 20 ∧ st.ts.length ≤ 20) : (decide (st.ns.length ≤ 70) && decide (st.hs.length ≤ 20) && decide (st.ts.length ≤ 20)) = true := by simp [h]
theorem few_f {st : Ch} (h : ¬ (st.ns.length ≤ 70 ∧ st.hs.length ≤ 20 ∧ st.ts.length ≤ 20)) : (decide (st.ns.length ≤ 70) && decide (st.hs.length ≤ 20) && decide (st.ts.length ≤ 20)) = false := by
  by_cases h1 : st.ns.length ≤ 70 <;> by_cases h2 : st.hs.length ≤ 20 <;> by_cases h3 : st.ts.length ≤ 20 <;> simp_all
theorem cSame_self (st : Ch) : cSame st st = true := by simp [cSame]
theorem dNew_len (n k : Int) : (dNew n k).1.ns.length ≤ 1000 ∧ (dNew n k).1.hs.length ≤ 1000 ∧ (dNew n k).1.ts.length ≤ 1000 := by
  unfold dNew
  split
  · simp
  split
  · simp
  · rename_i h1 h2
    have b1 := cIn_t (by simpa using h1)
    have b2 := cIn_t (by simpa using h2)
    obtain ⟨a, b, c⟩ := laid_lens n.toNat (List.replicate k.toNat [])
    simp only [a, b, c, List.length_replicate]
    omega
set_option maxRecDepth 100000 in
set_option maxHeartbeats 16000000 in
theorem ChainTells_walk (V V' : Value) (st so : Ch) (n0 n1 : Int) (w : World) (h : CsAt w V st) (h' : CsAt w V' so) :
    Calls Try.prog 4 #[V, V', .agg #[.int .i64 n0, .int .i64 n1]] w fun e w' => e = .returned (.bool true) ∧ Below w.heap.size w w' := by
  obtain ⟨A, B, C, a, b, c, rfl, hq⟩ := h
  have n3 : CsAt w (csV A B C a b c st.ns.length st.hs.length st.ts.length) st := ⟨A, B, C, a, b, c, rfl, hq⟩
  clear hq
  obtain ⟨A', B', C', a', b', c', rfl, hq⟩ := h'
  have n4 : CsAt w (csV A' B' C' a' b' c' so.ns.length so.hs.length so.ts.length) so := ⟨A', B', C', a', b', c', rfl, hq⟩
  clear hq
  go_enter Try.func4, Try.ntmps4
  go_upto_region 1 with fail
  generalize hV : World.alloc (World.alloc (World.alloc w _) _) _ = w1
  have hb : Below w.heap.size w w1 := by subst hV; (repeat (first | with_reducible exact Below.refl _ _ | with_reducible assumption | with_reducible refine Below.drew ?_ | with_reducible refine Below.drewN ?_ _ | with_reducible refine Below.alloc1 ?_ _ | with_reducible refine Below.setCell1 ?_ (by first | omega | (simp; done) | (simp; omega)) _ | with_reducible refine Below.step ?_ (by with_reducible assumption)))
  have k3 : Bk w1 w.heap.size 25 (csC A B C a b c st.ns.length st.hs.length st.ts.length) := by subst hV; exact ((Bk.new' w 25 (csC A B C a b c st.ns.length st.hs.length st.ts.length) _ rfl).alloc _).alloc _
  have k4 : Bk w1 (w.heap.size + 1) 25 (csC A' B' C' a' b' c' so.ns.length so.hs.length so.ts.length) := by subst hV; exact (Bk.new' (World.alloc w _) 25 (csC A' B' C' a' b' c' so.ns.length so.hs.length so.ts.length) _ (by simp)).alloc _
  have k5 : Bk w1 (w.heap.size + 1 + 1) 44 [.int .i64 n0, .int .i64 n1] := by subst hV; exact Bk.new' (World.alloc (World.alloc w _) _) 44 [.int .i64 n0, .int .i64 n1] _ (by simp)
  clear hV
  replace n3 := n3.step hb
  replace n4 := n4.step hb
  have lt5 := k5.lt
  generalize g3e : w.heap.size + 1 + 1 = g5 at *
  clear g3e
  have k3_0 := k3.cell 0; have k3_f0 := k3.frozen 0; have k3_1 := k3.cell 1; have k3_f1 := k3.frozen 1; have k3_2 := k3.cell 2; have k3_f2 := k3.frozen 2; simp only [List.set_cons_zero, List.set_cons_succ, List.getElem?_cons_zero, List.getElem?_cons_succ] at k3_0 k3_1 k3_2; have lt_k3 := k3.lt; have k4_0 := k4.cell 0; have k4_f0 := k4.frozen 0; have k4_1 := k4.cell 1; have k4_f1 := k4.frozen 1; have k4_2 := k4.cell 2; have k4_f2 := k4.frozen 2; simp only [List.set_cons_zero, List.set_cons_succ, List.getElem?_cons_zero, List.getElem?_cons_succ] at k4_0 k4_1 k4_2; have lt_k4 := k4.lt; have k5_0 := k5.cell 0; have k5_f0 := k5.frozen 0; have k5_1 := k5.cell 1; have k5_f1 := k5.frozen 1; simp only [List.set_cons_zero, List.set_cons_succ, List.getElem?_cons_zero, List.getElem?_cons_succ] at k5_0 k5_1; have lt_k5 := k5.lt
  have hF := fun W h => law04_few_at (csV A B C a b c st.ns.length st.hs.length st.ts.length) st W h
  have hF' := fun W h => law04_few_at (csV A' B' C' a' b' c' so.ns.length so.hs.length so.ts.length) so W h
  by_cases hf : st.ns.length ≤ 70 ∧ st.hs.length ≤ 20 ∧ st.ts.length ≤ 20
  case neg =>
    rw [few_f hf] at hF
    clear hf
    go_wp2_with fail
    refine (hF _ n3).mono ?_; rintro e w2 ⟨rfl, hy⟩
    replace hb := hb.step hy
    go_wp2_with fail
    refine (awake04_any _).mono ?_; rintro e w3 ⟨rfl, hy2⟩
    go_wp2
    go_ret
    exact ⟨rfl, hb.step hy2⟩
  rw [few_t hf] at hF
  by_cases hf' : so.ns.length ≤ 70 ∧ so.hs.length ≤ 20 ∧ so.ts.length ≤ 20
  case neg =>
    rw [few_f hf'] at hF'
    clear hf hf'
    go_wp2_with fail
    refine (hF _ n3).mono ?_; rintro e w2 ⟨rfl, hy⟩
    replace k3 := k3.step hy; (try clear k3_0 k3_f0 k3_1 k3_f1 k3_2 k3_f2); have k3_0 := k3.cell 0; have k3_f0 := k3.frozen 0; have k3_1 := k3.cell 1; have k3_f1 := k3.frozen 1; have k3_2 := k3.cell 2; have k3_f2 := k3.frozen 2; simp only [List.set_cons_zero, List.set_cons_succ, List.getElem?_cons_zero, List.getElem?_cons_succ] at k3_0 k3_1 k3_2; (try clear lt_k3); have lt_k3 := k3.lt; replace k4 := k4.step hy; (try clear k4_0 k4_f0 k4_1 k4_f1 k4_2 k4_f2); have k4_0 := k4.cell 0; have k4_f0 := k4.frozen 0; have k4_1 := k4.cell 1; have k4_f1 := k4.frozen 1; have k4_2 := k4.cell 2; have k4_f2 := k4.frozen 2; simp only [List.set_cons_zero, List.set_cons_succ, List.getElem?_cons_zero, List.getElem?_cons_succ] at k4_0 k4_1 k4_2; (try clear lt_k4); have lt_k4 := k4.lt
    replace n4 := n4.step hy
    replace hb := hb.step hy
    clear hy
    go_wp2_with fail
    refine (hF' _ n4).mono ?_; rintro e w4 ⟨rfl, hy⟩
    replace hb := hb.step hy
    go_wp2_with fail
    refine (awake04_any _).mono ?_; rintro e w3 ⟨rfl, hy2⟩
    go_wp2
    go_ret
    exact ⟨rfl, hb.step hy2⟩
  rw [few_t hf'] at hF'
  have hl : st.ns.length ≤ 1000 ∧ st.hs.length ≤ 1000 ∧ st.ts.length ≤ 1000 := by omega
  have hl' : so.ns.length ≤ 1000 ∧ so.hs.length ≤ 1000 ∧ so.ts.length ≤ 1000 := by omega
  have hw1 : (cWalkR st n1).length ≤ 1001 := by have := walkR_len st n1; omega
  have HL := hide hl
  have HL' := hide hl'
  have HW := hide hw1
  have HD := hide (dNew_len n0 n1)
  clear hf hf' hl hl' hw1
  have hNw := fun W => chain_New_any n0 n1 W
  have hNr := fun W => r04_New_any n0 n1 W
  generalize hDN : dNew n0 n1 = DN at *
  obtain ⟨dn, de⟩ := DN
  clear hDN
  go_wp2_with fail
  refine (hF _ n3).mono ?_; rintro e w2 ⟨rfl, hy⟩
  replace k3 := k3.step hy; (try clear k3_0 k3_f0 k3_1 k3_f1 k3_2 k3_f2); have k3_0 := k3.cell 0; have k3_f0 := k3.frozen 0; have k3_1 := k3.cell 1; have k3_f1 := k3.frozen 1; have k3_2 := k3.cell 2; have k3_f2 := k3.frozen 2; simp only [List.set_cons_zero, List.set_cons_succ, List.getElem?_cons_zero, List.getElem?_cons_succ] at k3_0 k3_1 k3_2; (try clear lt_k3); have lt_k3 := k3.lt; replace k4 := k4.step hy; (try clear k4_0 k4_f0 k4_1 k4_f1 k4_2 k4_f2); have k4_0 := k4.cell 0; have k4_f0 := k4.frozen 0; have k4_1 := k4.cell 1; have k4_f1 := k4.frozen 1; have k4_2 := k4.cell 2; have k4_f2 := k4.frozen 2; simp only [List.set_cons_zero, List.set_cons_succ, List.getElem?_cons_zero, List.getElem?_cons_succ] at k4_0 k4_1 k4_2; (try clear lt_k4); have lt_k4 := k4.lt; replace k5 := k5.step hy; (try clear k5_0 k5_f0 k5_1 k5_f1); have k5_0 := k5.cell 0; have k5_f0 := k5.frozen 0; have k5_1 := k5.cell 1; have k5_f1 := k5.frozen 1; simp only [List.set_cons_zero, List.set_cons_succ, List.getElem?_cons_zero, List.getElem?_cons_succ] at k5_0 k5_1; (try clear lt_k5); have lt_k5 := k5.lt
  replace n3 := n3.step hy
  replace n4 := n4.step hy
  replace hb := hb.step hy
  clear hy
  clear hF
  go_wp2_with fail
  refine (hF' _ n4).mono ?_; rintro e w3 ⟨rfl, hy⟩
  replace k3 := k3.step hy; (try clear k3_0 k3_f0 k3_1 k3_f1 k3_2 k3_f2); have k3_0 := k3.cell 0; have k3_f0 := k3.frozen 0; have k3_1 := k3.cell 1; have k3_f1 := k3.frozen 1; have k3_2 := k3.cell 2; have k3_f2 := k3.frozen 2; simp only [List.set_cons_zero, List.set_cons_succ, List.getElem?_cons_zero, List.getElem?_cons_succ] at k3_0 k3_1 k3_2; (try clear lt_k3); have lt_k3 := k3.lt; replace k4 := k4.step hy; (try clear k4_0 k4_f0 k4_1 k4_f1 k4_2 k4_f2); have k4_0 := k4.cell 0; have k4_f0 := k4.frozen 0; have k4_1 := k4.cell 1; have k4_f1 := k4.frozen 1; have k4_2 := k4.cell 2; have k4_f2 := k4.frozen 2; simp only [List.set_cons_zero, List.set_cons_succ, List.getElem?_cons_zero, List.getElem?_cons_succ] at k4_0 k4_1 k4_2; (try clear lt_k4); have lt_k4 := k4.lt; replace k5 := k5.step hy; (try clear k5_0 k5_f0 k5_1 k5_f1); have k5_0 := k5.cell 0; have k5_f0 := k5.frozen 0; have k5_1 := k5.cell 1; have k5_f1 := k5.frozen 1; simp only [List.set_cons_zero, List.set_cons_succ, List.getElem?_cons_zero, List.getElem?_cons_succ] at k5_0 k5_1; (try clear lt_k5); have lt_k5 := k5.lt
  replace n3 := n3.step hy
  replace n4 := n4.step hy
  replace hb := hb.step hy
  clear hy
  clear hF'
  go_wp2_with fail
  refine (law04_own_at _ st _ HL.out.1 HL.out.2.1 HL.out.2.2 n3).mono ?_; rintro e w4 ⟨_, rfl, hn, hy⟩
  replace k3 := k3.step hy; (try clear k3_0 k3_f0 k3_1 k3_f1 k3_2 k3_f2); have k3_0 := k3.cell 0; have k3_f0 := k3.frozen 0; have k3_1 := k3.cell 1; have k3_f1 := k3.frozen 1; have k3_2 := k3.cell 2; have k3_f2 := k3.frozen 2; simp only [List.set_cons_zero, List.set_cons_succ, List.getElem?_cons_zero, List.getElem?_cons_succ] at k3_0 k3_1 k3_2; (try clear lt_k3); have lt_k3 := k3.lt; replace k4 := k4.step hy; (try clear k4_0 k4_f0 k4_1 k4_f1 k4_2 k4_f2); have k4_0 := k4.cell 0; have k4_f0 := k4.frozen 0; have k4_1 := k4.cell 1; have k4_f1 := k4.frozen 1; have k4_2 := k4.cell 2; have k4_f2 := k4.frozen 2; simp only [List.set_cons_zero, List.set_cons_succ, List.getElem?_cons_zero, List.getElem?_cons_succ] at k4_0 k4_1 k4_2; (try clear lt_k4); have lt_k4 := k4.lt; replace k5 := k5.step hy; (try clear k5_0 k5_f0 k5_1 k5_f1); have k5_0 := k5.cell 0; have k5_f0 := k5.frozen 0; have k5_1 := k5.cell 1; have k5_f1 := k5.frozen 1; simp only [List.set_cons_zero, List.set_cons_succ, List.getElem?_cons_zero, List.getElem?_cons_succ] at k5_0 k5_1; (try clear lt_k5); have lt_k5 := k5.lt
  replace n3 := n3.step hy
  replace n4 := n4.step hy
  replace hb := hb.step hy
  clear hy
  obtain ⟨A7, B7, C7, a7, b7, c7, rfl, hq⟩ := hn
  have n7 : CsAt _ (csV A7 B7 C7 a7 b7 c7 st.ns.length st.hs.length st.ts.length) st := ⟨A7, B7, C7, a7, b7, c7, rfl, hq⟩
  clear hq
  go_wp2_with fail
  generalize hV : World.alloc w4 _ = w5
  have hy : Below w4.heap.size w4 w5 := by subst hV; (repeat (first | with_reducible exact Below.refl _ _ | with_reducible assumption | with_reducible refine Below.drew ?_ | with_reducible refine Below.drewN ?_ _ | with_reducible refine Below.alloc1 ?_ _ | with_reducible refine Below.setCell1 ?_ (by first | omega | (simp; done) | (simp; omega)) _ | with_reducible refine Below.step ?_ (by with_reducible assumption)))
  have k7 : Bk w5 w4.heap.size 30 (csC A7 B7 C7 a7 b7 c7 st.ns.length st.hs.length st.ts.length) := by subst hV; (repeat (first | with_reducible exact Bk.new' _ _ _ _ (by simp; done) | with_reducible assumption | with_reducible refine Bk.alloc ?_ _ | with_reducible refine Bk.drew ?_ | with_reducible refine Bk.drewN ?_ _ | with_reducible refine Bk.step ?_ (by with_reducible assumption) | with_reducible refine Bk.far ?_ (by first | omega | (simp; done) | (simp; omega)) _))
  clear hV
  replace n7 := n7.step hy
  replace k3 := k3.step hy; (try clear k3_0 k3_f0 k3_1 k3_f1 k3_2 k3_f2); have k3_0 := k3.cell 0; have k3_f0 := k3.frozen 0; have k3_1 := k3.cell 1; have k3_f1 := k3.frozen 1; have k3_2 := k3.cell 2; have k3_f2 := k3.frozen 2; simp only [List.set_cons_zero, List.set_cons_succ, List.getElem?_cons_zero, List.getElem?_cons_succ] at k3_0 k3_1 k3_2; (try clear lt_k3); have lt_k3 := k3.lt; replace k4 := k4.step hy; (try clear k4_0 k4_f0 k4_1 k4_f1 k4_2 k4_f2); have k4_0 := k4.cell 0; have k4_f0 := k4.frozen 0; have k4_1 := k4.cell 1; have k4_f1 := k4.frozen 1; have k4_2 := k4.cell 2; have k4_f2 := k4.frozen 2; simp only [List.set_cons_zero, List.set_cons_succ, List.getElem?_cons_zero, List.getElem?_cons_succ] at k4_0 k4_1 k4_2; (try clear lt_k4); have lt_k4 := k4.lt; replace k5 := k5.step hy; (try clear k5_0 k5_f0 k5_1 k5_f1); have k5_0 := k5.cell 0; have k5_f0 := k5.frozen 0; have k5_1 := k5.cell 1; have k5_f1 := k5.frozen 1; simp only [List.set_cons_zero, List.set_cons_succ, List.getElem?_cons_zero, List.getElem?_cons_succ] at k5_0 k5_1; (try clear lt_k5); have lt_k5 := k5.lt
  replace n3 := n3.step hy
  replace n4 := n4.step hy
  replace hb := hb.step hy
  clear hy
  have gl7 := k7.lt
  generalize w4.heap.size = g7 at *
  have k7_0 := k7.cell 0; have k7_f0 := k7.frozen 0; have k7_1 := k7.cell 1; have k7_f1 := k7.frozen 1; have k7_2 := k7.cell 2; have k7_f2 := k7.frozen 2; simp only [List.set_cons_zero, List.set_cons_succ, List.getElem?_cons_zero, List.getElem?_cons_succ] at k7_0 k7_1 k7_2; have lt_k7 := k7.lt
  refine (hNw _).mono ?_; rintro e w6 ⟨_, rfl, hn, hy⟩
  replace k3 := k3.step hy; (try clear k3_0 k3_f0 k3_1 k3_f1 k3_2 k3_f2); have k3_0 := k3.cell 0; have k3_f0 := k3.frozen 0; have k3_1 := k3.cell 1; have k3_f1 := k3.frozen 1; have k3_2 := k3.cell 2; have k3_f2 := k3.frozen 2; simp only [List.set_cons_zero, List.set_cons_succ, List.getElem?_cons_zero, List.getElem?_cons_succ] at k3_0 k3_1 k3_2; (try clear lt_k3); have lt_k3 := k3.lt; replace k4 := k4.step hy; (try clear k4_0 k4_f0 k4_1 k4_f1 k4_2 k4_f2); have k4_0 := k4.cell 0; have k4_f0 := k4.frozen 0; have k4_1 := k4.cell 1; have k4_f1 := k4.frozen 1; have k4_2 := k4.cell 2; have k4_f2 := k4.frozen 2; simp only [List.set_cons_zero, List.set_cons_succ, List.getElem?_cons_zero, List.getElem?_cons_succ] at k4_0 k4_1 k4_2; (try clear lt_k4); have lt_k4 := k4.lt; replace k5 := k5.step hy; (try clear k5_0 k5_f0 k5_1 k5_f1); have k5_0 := k5.cell 0; have k5_f0 := k5.frozen 0; have k5_1 := k5.cell 1; have k5_f1 := k5.frozen 1; simp only [List.set_cons_zero, List.set_cons_succ, List.getElem?_cons_zero, List.getElem?_cons_succ] at k5_0 k5_1; (try clear lt_k5); have lt_k5 := k5.lt; replace k7 := k7.step hy; (try clear k7_0 k7_f0 k7_1 k7_f1 k7_2 k7_f2); have k7_0 := k7.cell 0; have k7_f0 := k7.frozen 0; have k7_1 := k7.cell 1; have k7_f1 := k7.frozen 1; have k7_2 := k7.cell 2; have k7_f2 := k7.frozen 2; simp only [List.set_cons_zero, List.set_cons_succ, List.getElem?_cons_zero, List.getElem?_cons_succ] at k7_0 k7_1 k7_2; (try clear lt_k7); have lt_k7 := k7.lt
  replace n3 := n3.step hy
  replace n4 := n4.step hy
  replace n7 := n7.step hy
  replace hb := hb.step hy
  clear hy
  obtain ⟨A8, B8, C8, a8, b8, c8, rfl, hq⟩ := hn
  have n8 : CsAt _ (csV A8 B8 C8 a8 b8 c8 dn.ns.length dn.hs.length dn.ts.length) dn := CsNew.at_ (b := w5.heap.size) ⟨A8, B8, C8, a8, b8, c8, rfl, hq⟩
  clear hq
  go_wp2_with fail
  generalize hV : World.alloc w6 _ = w7
  have hy : Below w6.heap.size w6 w7 := by subst hV; (repeat (first | with_reducible exact Below.refl _ _ | with_reducible assumption | with_reducible refine Below.drew ?_ | with_reducible refine Below.drewN ?_ _ | with_reducible refine Below.alloc1 ?_ _ | with_reducible refine Below.setCell1 ?_ (by first | omega | (simp; done) | (simp; omega)) _ | with_reducible refine Below.step ?_ (by with_reducible assumption)))
  have k8 : Bk w7 w6.heap.size 30 (csC A8 B8 C8 a8 b8 c8 dn.ns.length dn.hs.length dn.ts.length) := by subst hV; (repeat (first | with_reducible exact Bk.new' _ _ _ _ (by simp; done) | with_reducible assumption | with_reducible refine Bk.alloc ?_ _ | with_reducible refine Bk.drew ?_ | with_reducible refine Bk.drewN ?_ _ | with_reducible refine Bk.step ?_ (by with_reducible assumption) | with_reducible refine Bk.far ?_ (by first | omega | (simp; done) | (simp; omega)) _))
  clear hV
  replace n8 := n8.step hy
  replace k3 := k3.step hy; (try clear k3_0 k3_f0 k3_1 k3_f1 k3_2 k3_f2); have k3_0 := k3.cell 0; have k3_f0 := k3.frozen 0; have k3_1 := k3.cell 1; have k3_f1 := k3.frozen 1; have k3_2 := k3.cell 2; have k3_f2 := k3.frozen 2; simp only [List.set_cons_zero, List.set_cons_succ, List.getElem?_cons_zero, List.getElem?_cons_succ] at k3_0 k3_1 k3_2; (try clear lt_k3); have lt_k3 := k3.lt; replace k4 := k4.step hy; (try clear k4_0 k4_f0 k4_1 k4_f1 k4_2 k4_f2); have k4_0 := k4.cell 0; have k4_f0 := k4.frozen 0; have k4_1 := k4.cell 1; have k4_f1 := k4.frozen 1; have k4_2 := k4.cell 2; have k4_f2 := k4.frozen 2; simp only [List.set_cons_zero, List.set_cons_succ, List.getElem?_cons_zero, List.getElem?_cons_succ] at k4_0 k4_1 k4_2; (try clear lt_k4); have lt_k4 := k4.lt; replace k5 := k5.step hy; (try clear k5_0 k5_f0 k5_1 k5_f1); have k5_0 := k5.cell 0; have k5_f0 := k5.frozen 0; have k5_1 := k5.cell 1; have k5_f1 := k5.frozen 1; simp only [List.set_cons_zero, List.set_cons_succ, List.getElem?_cons_zero, List.getElem?_cons_succ] at k5_0 k5_1; (try clear lt_k5); have lt_k5 := k5.lt; replace k7 := k7.step hy; (try clear k7_0 k7_f0 k7_1 k7_f1 k7_2 k7_f2); have k7_0 := k7.cell 0; have k7_f0 := k7.frozen 0; have k7_1 := k7.cell 1; have k7_f1 := k7.frozen 1; have k7_2 := k7.cell 2; have k7_f2 := k7.frozen 2; simp only [List.set_cons_zero, List.set_cons_succ, List.getElem?_cons_zero, List.getElem?_cons_succ] at k7_0 k7_1 k7_2; (try clear lt_k7); have lt_k7 := k7.lt
  replace n3 := n3.step hy
  replace n4 := n4.step hy
  replace n7 := n7.step hy
  replace hb := hb.step hy
  clear hy
  have gl8 := k8.lt
  generalize w6.heap.size = g8 at *
  have k8_0 := k8.cell 0; have k8_f0 := k8.frozen 0; have k8_1 := k8.cell 1; have k8_f1 := k8.frozen 1; have k8_2 := k8.cell 2; have k8_f2 := k8.frozen 2; simp only [List.set_cons_zero, List.set_cons_succ, List.getElem?_cons_zero, List.getElem?_cons_succ] at k8_0 k8_1 k8_2; have lt_k8 := k8.lt
  clear hNw
  refine (hNr _).mono ?_; rintro e w8 ⟨_, rfl, hn, hy⟩
  replace k3 := k3.step hy; (try clear k3_0 k3_f0 k3_1 k3_f1 k3_2 k3_f2); have k3_0 := k3.cell 0; have k3_f0 := k3.frozen 0; have k3_1 := k3.cell 1; have k3_f1 := k3.frozen 1; have k3_2 := k3.cell 2; have k3_f2 := k3.frozen 2; simp only [List.set_cons_zero, List.set_cons_succ, List.getElem?_cons_zero, List.getElem?_cons_succ] at k3_0 k3_1 k3_2; (try clear lt_k3); have lt_k3 := k3.lt; replace k4 := k4.step hy; (try clear k4_0 k4_f0 k4_1 k4_f1 k4_2 k4_f2); have k4_0 := k4.cell 0; have k4_f0 := k4.frozen 0; have k4_1 := k4.cell 1; have k4_f1 := k4.frozen 1; have k4_2 := k4.cell 2; have k4_f2 := k4.frozen 2; simp only [List.set_cons_zero, List.set_cons_succ, List.getElem?_cons_zero, List.getElem?_cons_succ] at k4_0 k4_1 k4_2; (try clear lt_k4); have lt_k4 := k4.lt; replace k5 := k5.step hy; (try clear k5_0 k5_f0 k5_1 k5_f1); have k5_0 := k5.cell 0; have k5_f0 := k5.frozen 0; have k5_1 := k5.cell 1; have k5_f1 := k5.frozen 1; simp only [List.set_cons_zero, List.set_cons_succ, List.getElem?_cons_zero, List.getElem?_cons_succ] at k5_0 k5_1; (try clear lt_k5); have lt_k5 := k5.lt; replace k7 := k7.step hy; (try clear k7_0 k7_f0 k7_1 k7_f1 k7_2 k7_f2); have k7_0 := k7.cell 0; have k7_f0 := k7.frozen 0; have k7_1 := k7.cell 1; have k7_f1 := k7.frozen 1; have k7_2 := k7.cell 2; have k7_f2 := k7.frozen 2; simp only [List.set_cons_zero, List.set_cons_succ, List.getElem?_cons_zero, List.getElem?_cons_succ] at k7_0 k7_1 k7_2; (try clear lt_k7); have lt_k7 := k7.lt; replace k8 := k8.step hy; (try clear k8_0 k8_f0 k8_1 k8_f1 k8_2 k8_f2); have k8_0 := k8.cell 0; have k8_f0 := k8.frozen 0; have k8_1 := k8.cell 1; have k8_f1 := k8.frozen 1; have k8_2 := k8.cell 2; have k8_f2 := k8.frozen 2; simp only [List.set_cons_zero, List.set_cons_succ, List.getElem?_cons_zero, List.getElem?_cons_succ] at k8_0 k8_1 k8_2; (try clear lt_k8); have lt_k8 := k8.lt
  replace n3 := n3.step hy
  replace n4 := n4.step hy
  replace n7 := n7.step hy
  replace n8 := n8.step hy
  replace hb := hb.step hy
  clear hy
  obtain ⟨A10, B10, C10, a10, b10, c10, rfl, hq⟩ := hn
  have n10 : CsAt _ (csV A10 B10 C10 a10 b10 c10 dn.ns.length dn.hs.length dn.ts.length) dn := ⟨A10, B10, C10, a10, b10, c10, rfl, hq⟩
  clear hq
  go_wp2_with fail
  generalize hV : World.alloc w8 _ = w9
  have hy : Below w8.heap.size w8 w9 := by subst hV; (repeat (first | with_reducible exact Below.refl _ _ | with_reducible assumption | with_reducible refine Below.drew ?_ | with_reducible refine Below.drewN ?_ _ | with_reducible refine Below.alloc1 ?_ _ | with_reducible refine Below.setCell1 ?_ (by first | omega | (simp; done) | (simp; omega)) _ | with_reducible refine Below.step ?_ (by with_reducible assumption)))
  have k10 : Bk w9 w8.heap.size 25 (csC A10 B10 C10 a10 b10 c10 dn.ns.length dn.hs.length dn.ts.length) := by subst hV; (repeat (first | with_reducible exact Bk.new' _ _ _ _ (by simp; done) | with_reducible assumption | with_reducible refine Bk.alloc ?_ _ | with_reducible refine Bk.drew ?_ | with_reducible refine Bk.drewN ?_ _ | with_reducible refine Bk.step ?_ (by with_reducible assumption) | with_reducible refine Bk.far ?_ (by first | omega | (simp; done) | (simp; omega)) _))
  clear hV
  replace n10 := n10.step hy
  replace k3 := k3.step hy; (try clear k3_0 k3_f0 k3_1 k3_f1 k3_2 k3_f2); have k3_0 := k3.cell 0; have k3_f0 := k3.frozen 0; have k3_1 := k3.cell 1; have k3_f1 := k3.frozen 1; have k3_2 := k3.cell 2; have k3_f2 := k3.frozen 2; simp only [List.set_cons_zero, List.set_cons_succ, List.getElem?_cons_zero, List.getElem?_cons_succ] at k3_0 k3_1 k3_2; (try clear lt_k3); have lt_k3 := k3.lt; replace k4 := k4.step hy; (try clear k4_0 k4_f0 k4_1 k4_f1 k4_2 k4_f2); have k4_0 := k4.cell 0; have k4_f0 := k4.frozen 0; have k4_1 := k4.cell 1; have k4_f1 := k4.frozen 1; have k4_2 := k4.cell 2; have k4_f2 := k4.frozen 2; simp only [List.set_cons_zero, List.set_cons_succ, List.getElem?_cons_zero, List.getElem?_cons_succ] at k4_0 k4_1 k4_2; (try clear lt_k4); have lt_k4 := k4.lt; replace k5 := k5.step hy; (try clear k5_0 k5_f0 k5_1 k5_f1); have k5_0 := k5.cell 0; have k5_f0 := k5.frozen 0; have k5_1 := k5.cell 1; have k5_f1 := k5.frozen 1; simp only [List.set_cons_zero, List.set_cons_succ, List.getElem?_cons_zero, List.getElem?_cons_succ] at k5_0 k5_1; (try clear lt_k5); have lt_k5 := k5.lt; replace k7 := k7.step hy; (try clear k7_0 k7_f0 k7_1 k7_f1 k7_2 k7_f2); have k7_0 := k7.cell 0; have k7_f0 := k7.frozen 0; have k7_1 := k7.cell 1; have k7_f1 := k7.frozen 1; have k7_2 := k7.cell 2; have k7_f2 := k7.frozen 2; simp only [List.set_cons_zero, List.set_cons_succ, List.getElem?_cons_zero, List.getElem?_cons_succ] at k7_0 k7_1 k7_2; (try clear lt_k7); have lt_k7 := k7.lt; replace k8 := k8.step hy; (try clear k8_0 k8_f0 k8_1 k8_f1 k8_2 k8_f2); have k8_0 := k8.cell 0; have k8_f0 := k8.frozen 0; have k8_1 := k8.cell 1; have k8_f1 := k8.frozen 1; have k8_2 := k8.cell 2; have k8_f2 := k8.frozen 2; simp only [List.set_cons_zero, List.set_cons_succ, List.getElem?_cons_zero, List.getElem?_cons_succ] at k8_0 k8_1 k8_2; (try clear lt_k8); have lt_k8 := k8.lt
  replace n3 := n3.step hy
  replace n4 := n4.step hy
  replace n7 := n7.step hy
  replace n8 := n8.step hy
  replace hb := hb.step hy
  clear hy
  have gl10 := k10.lt
  generalize w8.heap.size = g10 at *
  have k10_0 := k10.cell 0; have k10_f0 := k10.frozen 0; have k10_1 := k10.cell 1; have k10_f1 := k10.frozen 1; have k10_2 := k10.cell 2; have k10_f2 := k10.frozen 2; simp only [List.set_cons_zero, List.set_cons_succ, List.getElem?_cons_zero, List.getElem?_cons_succ] at k10_0 k10_1 k10_2; have lt_k10 := k10.lt
  clear hNr
  dsimp only [List.append]
  have hC1 := fun W h => chain_Check_at (csV A7 B7 C7 a7 b7 c7 st.ns.length st.hs.length st.ts.length) st W HL.out.1 HL.out.2.1 HL.out.2.2 h
  have hC2 := fun W h => r04_Check_at (csV A B C a b c st.ns.length st.hs.length st.ts.length) st W HL.out.1 HL.out.2.1 HL.out.2.2 h
  have hB1 := fun W h => chain_Back_at (csV A7 B7 C7 a7 b7 c7 st.ns.length st.hs.length st.ts.length) st W HL.out.1 HL.out.2.1 HL.out.2.2 h n1
  have hB2 := fun W h => r04_Back_at (csV A B C a b c st.ns.length st.hs.length st.ts.length) st W HL.out.1 HL.out.2.1 HL.out.2.2 h n1
  have hW1 := fun W h => chain_Walk_at (csV A7 B7 C7 a7 b7 c7 st.ns.length st.hs.length st.ts.length) st W HL.out.1 HL.out.2.1 HL.out.2.2 h n1
  have hW2 := fun W h => r04_Walk_at (csV A B C a b c st.ns.length st.hs.length st.ts.length) st W HL.out.1 HL.out.2.1 HL.out.2.2 h n1
  have hL1 := fun W h => chain_Len_at (csV A7 B7 C7 a7 b7 c7 st.ns.length st.hs.length st.ts.length) st W HL.out.1 HL.out.2.1 HL.out.2.2 h n1
  have hL2 := fun W h => r04_Len_at (csV A B C a b c st.ns.length st.hs.length st.ts.length) st W HL.out.1 HL.out.2.1 HL.out.2.2 h n1
  have hF1 := fun W h => chain_Front_at (csV A7 B7 C7 a7 b7 c7 st.ns.length st.hs.length st.ts.length) st W HL.out.1 HL.out.2.1 HL.out.2.2 h n1
  have hF2 := fun W h => r04_Front_at (csV A B C a b c st.ns.length st.hs.length st.ts.length) st W HL.out.1 HL.out.2.1 HL.out.2.2 h n1
  have hS1 := fun V W h h' => chain_Same_at (csV A7 B7 C7 a7 b7 c7 st.ns.length st.hs.length st.ts.length) V st so W HL.out.1 HL.out.2.1 HL.out.2.2 h h'
  have hS2 := fun W h h' => r04_Same_at (csV A B C a b c st.ns.length st.hs.length st.ts.length) (csV A' B' C' a' b' c' so.ns.length so.hs.length so.ts.length) st so W HL.out.1 HL.out.2.1 HL.out.2.2 h h'
  have hS3 := fun V W h h' => r04_Same_at V (csV A10 B10 C10 a10 b10 c10 dn.ns.length dn.hs.length dn.ts.length) dn dn W HD.out.1 HD.out.2.1 HD.out.2.2 h h'
  rw [cSame_self] at hS3
  have hO := fun W h => law04_own_at (csV A' B' C' a' b' c' so.ns.length so.hs.length so.ts.length) so W HL'.out.1 HL'.out.2.1 HL'.out.2.2 h
  have hK := fun W h => law04_back_at (csV A8 B8 C8 a8 b8 c8 dn.ns.length dn.hs.length dn.ts.length) dn W HD.out.1 HD.out.2.1 HD.out.2.2 h
  have HB := hide (show (dBack st n1).length ≤ 1001 by rw [back_eq, List.length_reverse]; exact HW.out)
  generalize cWalkR st n1 = R1 at *
  generalize dBack st n1 = R2 at *
  generalize cFront st n1 = fv at *
  generalize cSame st so = sm at *
  generalize cCheck st = cv at *
  obtain ⟨X1, hX1⟩ : ∃ X : List Value, X = ints (nI R1) := ⟨_, rfl⟩
  obtain ⟨X2, hX2⟩ : ∃ X : List Value, X = ints (nI R2) := ⟨_, rfl⟩
  have hI1 := fun O1 O2 c1 c2 W h h' => ints_same O1 O2 c1 c2 R1 W HW.out h h'
  have hI2 := fun O1 O2 c1 c2 W h h' => ints_same O1 O2 c1 c2 R2 W HB.out h h'
  rw [← hX1] at hW1 hW2 hI1
  rw [← hX2] at hB1 hB2 hI2
  clear hX1 hX2
  have bsm : (sm == sm) = true := by simp
  refine wp_region_m [(1, only (.int .i64 cv)), (3, only (.int .i64 cv)), (9, RowAt R1.length X1), (13, RowAt R1.length X1), (14, only (.bool true)), (20, RowAt R2.length X2), (24, RowAt R2.length X2), (25, only (.bool true)), (31, only (.int .i64 fv)), (35, only (.int .i64 fv)), (42, only (.int .i64 R1.length)), (46, only (.int .i64 R1.length)), (52, CsA so), (53, only (.bool sm)), (56, only (.bool sm)), (61, CsA dn), (63, only (.bool true)), (71, only (.bool true))] (by kernel_rfl) (lexB_of_fast (by kernel_rfl)) (by kernel_rfl) (by kernel_rfl) (sts_cons (sts_only _) (sts_cons (sts_only _) (sts_cons (sts_row _ _) (sts_cons (sts_row _ _) (sts_cons (sts_only _) (sts_cons (sts_row _ _) (sts_cons (sts_row _ _) (sts_cons (sts_only _) (sts_cons (sts_only _) (sts_cons (sts_only _) (sts_cons (sts_only _) (sts_cons (sts_only _) (sts_cons (sts_csA _) (sts_cons (sts_only _) (sts_cons (sts_only _) (sts_cons (sts_csA _) (sts_cons (sts_only _) (sts_cons (sts_only _) sts_nil)))))))))))))))))) (fun kq => ?_); (try dsimp only [List.append])
  (repeat (refine wpM_via (by kernel_rfl) ?_; go_big_quiet_step (fail); refine wpQuiet_nil ?_))
  (refine wpM_only _ (.int .i64 cv) (by kernel_rfl) (by kernel_rfl) rfl (later_some _) ?_ ?_; (focus (intro x hx hk; obtain ⟨px, rfl⟩ := hx; go_simp; (first | with_reducible refine mUpon_enter ?_ | with_reducible refine mUpon_value ?_); go_at_call 22; exact (hC1 _ (n7.step (below_regrown w9 _ _))).mo)); intro K hK; go_big_quiet_op; refine hK _ ?_; clear hK K)
  (repeat (refine wpM_via (by kernel_rfl) ?_; go_big_quiet_step (fail); refine wpQuiet_nil ?_))
  (refine wpM_only _ (.int .i64 cv) (by kernel_rfl) (by kernel_rfl) rfl (later_some _) ?_ ?_; (focus (intro x hx hk; obtain ⟨px, rfl⟩ := hx; go_simp; (first | with_reducible refine mUpon_enter ?_ | with_reducible refine mUpon_value ?_); go_at_call 23; exact (hC2 _ (n3.step (below_regrown w9 _ _))).mo)); intro K hK; go_big_quiet_op; refine hK _ ?_; clear hK K)
  (repeat (refine wpM_via (by kernel_rfl) ?_; go_big_quiet_step (fail); refine wpQuiet_nil ?_))
  (refine wpM_spec _ (RowAt R1.length X1) (by kernel_rfl) (by kernel_rfl) rfl (later_some _) ?_ ?_; (focus (intro x hx hk; obtain ⟨px, rfl⟩ := hx; go_simp; (first | with_reducible refine mUpon_enter ?_ | with_reducible refine mUpon_value ?_); go_at_call 25; exact Calls.mrow ((hW1 _ (n7.step (below_regrown w9 _ _))).mono fun _ _ ⟨O, co, e, ow, b⟩ => ⟨O, co, e, own_rd ow, b⟩))); intro v hv K hK; obtain ⟨O1, o1, rfl⟩ := hv; go_big_quiet_op; refine hK _ ?_; clear hK K)
  (repeat (refine wpM_via (by kernel_rfl) ?_; go_big_quiet_step (fail); refine wpQuiet_nil ?_))
  (refine wpM_spec _ (RowAt R1.length X1) (by kernel_rfl) (by kernel_rfl) rfl (later_some _) ?_ ?_; (focus (intro x hx hk; obtain ⟨px, rfl⟩ := hx; go_simp; (first | with_reducible refine mUpon_enter ?_ | with_reducible refine mUpon_value ?_); go_at_call 26; exact Calls.mrow ((hW2 _ (n3.step (below_regrown w9 _ _))).mono fun _ _ ⟨O, co, e, ow, b⟩ => ⟨O, co, e, own_rd ow, b⟩))); intro v hv K hK; obtain ⟨O2, o2, rfl⟩ := hv; go_big_quiet_op; refine hK _ ?_; clear hK K)
  (repeat (refine wpM_via (by kernel_rfl) ?_; go_big_quiet_step (fail); refine wpQuiet_nil ?_))
  (refine wpM_only _ (.bool true) (by kernel_rfl) (by kernel_rfl) rfl (later_some _) ?_ ?_; (focus (intro x hx hk; obtain ⟨px, rfl⟩ := hx; go_simp; (first | with_reducible refine mUpon_enter ?_ | with_reducible refine mUpon_value ?_); go_at_call 24; exact (hI1 _ _ _ _ _ (row_of (hk.2.1 (by kernel_rfl))) (row_of (hk.1 (by kernel_rfl)))).mo)); intro K hK; go_big_quiet_op; refine hK _ ?_; clear hK K)
  (repeat (refine wpM_via (by kernel_rfl) ?_; go_big_quiet_step (fail); refine wpQuiet_nil ?_))
  (refine wpM_spec _ (RowAt R2.length X2) (by kernel_rfl) (by kernel_rfl) rfl (later_some _) ?_ ?_; (focus (intro x hx hk; obtain ⟨px, rfl⟩ := hx; go_simp; (first | with_reducible refine mUpon_enter ?_ | with_reducible refine mUpon_value ?_); go_at_call 27; exact Calls.mrow ((hB1 _ (n7.step (below_regrown w9 _ _))).mono fun _ _ ⟨O, co, e, ow, b⟩ => ⟨O, co, e, own_rd ow, b⟩))); intro v hv K hK; obtain ⟨O3, o3, rfl⟩ := hv; go_big_quiet_op; refine hK _ ?_; clear hK K)
  (repeat (refine wpM_via (by kernel_rfl) ?_; go_big_quiet_step (fail); refine wpQuiet_nil ?_))
  (refine wpM_spec _ (RowAt R2.length X2) (by kernel_rfl) (by kernel_rfl) rfl (later_some _) ?_ ?_; (focus (intro x hx hk; obtain ⟨px, rfl⟩ := hx; go_simp; (first | with_reducible refine mUpon_enter ?_ | with_reducible refine mUpon_value ?_); go_at_call 28; exact Calls.mrow ((hB2 _ (n3.step (below_regrown w9 _ _))).mono fun _ _ ⟨O, co, e, ow, b⟩ => ⟨O, co, e, own_rd ow, b⟩))); intro v hv K hK; obtain ⟨O4, o4, rfl⟩ := hv; go_big_quiet_op; refine hK _ ?_; clear hK K)
  (repeat (refine wpM_via (by kernel_rfl) ?_; go_big_quiet_step (fail); refine wpQuiet_nil ?_))
  (refine wpM_only _ (.bool true) (by kernel_rfl) (by kernel_rfl) rfl (later_some _) ?_ ?_; (focus (intro x hx hk; obtain ⟨px, rfl⟩ := hx; go_simp; (first | with_reducible refine mUpon_enter ?_ | with_reducible refine mUpon_value ?_); go_at_call 24; exact (hI2 _ _ _ _ _ (row_of (hk.2.1 (by kernel_rfl))) (row_of (hk.1 (by kernel_rfl)))).mo)); intro K hK; go_big_quiet_op; refine hK _ ?_; clear hK K)
  (repeat (refine wpM_via (by kernel_rfl) ?_; go_big_quiet_step (fail); refine wpQuiet_nil ?_))
  (refine wpM_only _ (.int .i64 fv) (by kernel_rfl) (by kernel_rfl) rfl (later_some _) ?_ ?_; (focus (intro x hx hk; obtain ⟨px, rfl⟩ := hx; go_simp; (first | with_reducible refine mUpon_enter ?_ | with_reducible refine mUpon_value ?_); go_at_call 29; exact (hF1 _ (n7.step (below_regrown w9 _ _))).mo)); intro K hK; go_big_quiet_op; refine hK _ ?_; clear hK K)
  (repeat (refine wpM_via (by kernel_rfl) ?_; go_big_quiet_step (fail); refine wpQuiet_nil ?_))
  (refine wpM_only _ (.int .i64 fv) (by kernel_rfl) (by kernel_rfl) rfl (later_some _) ?_ ?_; (focus (intro x hx hk; obtain ⟨px, rfl⟩ := hx; go_simp; (first | with_reducible refine mUpon_enter ?_ | with_reducible refine mUpon_value ?_); go_at_call 30; exact (hF2 _ (n3.step (below_regrown w9 _ _))).mo)); intro K hK; go_big_quiet_op; refine hK _ ?_; clear hK K)
  (repeat (refine wpM_via (by kernel_rfl) ?_; go_big_quiet_step (fail); refine wpQuiet_nil ?_))
  (refine wpM_only _ (.int .i64 R1.length) (by kernel_rfl) (by kernel_rfl) rfl (later_some _) ?_ ?_; (focus (intro x hx hk; obtain ⟨px, rfl⟩ := hx; go_simp; (first | with_reducible refine mUpon_enter ?_ | with_reducible refine mUpon_value ?_); go_at_call 31; exact (hL1 _ (n7.step (below_regrown w9 _ _))).mo)); intro K hK; go_big_quiet_op; refine hK _ ?_; clear hK K)
  (repeat (refine wpM_via (by kernel_rfl) ?_; go_big_quiet_step (fail); refine wpQuiet_nil ?_))
  (refine wpM_only _ (.int .i64 R1.length) (by kernel_rfl) (by kernel_rfl) rfl (later_some _) ?_ ?_; (focus (intro x hx hk; obtain ⟨px, rfl⟩ := hx; go_simp; (first | with_reducible refine mUpon_enter ?_ | with_reducible refine mUpon_value ?_); go_at_call 32; exact (hL2 _ (n3.step (below_regrown w9 _ _))).mo)); intro K hK; go_big_quiet_op; refine hK _ ?_; clear hK K)
  (repeat (refine wpM_via (by kernel_rfl) ?_; go_big_quiet_step (fail); refine wpQuiet_nil ?_))
  (refine wpM_spec _ (CsA so) (by kernel_rfl) (by kernel_rfl) rfl (later_some _) ?_ ?_; (focus (intro x hx hk; obtain ⟨px, rfl⟩ := hx; go_simp; (first | with_reducible refine mUpon_enter ?_ | with_reducible refine mUpon_value ?_); go_at_call 9; exact Calls.mcsA (hO _ (n4.step (below_regrown w9 _ _))))); intro v hv K hK; obtain ⟨D1, D2, D3, d1, d2, d3, rfl⟩ := hv; go_big_quiet_op; refine hK _ ?_; clear hK K)
  (repeat (refine wpM_via (by kernel_rfl) ?_; go_big_quiet_step (fail); refine wpQuiet_nil ?_))
  (refine wpM_only _ (.bool sm) (by kernel_rfl) (by kernel_rfl) rfl (later_some _) ?_ ?_; (focus (intro x hx hk; obtain ⟨px, rfl⟩ := hx; go_simp; (first | with_reducible refine mUpon_enter ?_ | with_reducible refine mUpon_value ?_); go_at_call 33; exact (hS1 _ _ (n7.step (below_regrown w9 _ _)) (hk.1 (by kernel_rfl))).mo)); intro K hK; go_big_quiet_op; refine hK _ ?_; clear hK K)
  (repeat (refine wpM_via (by kernel_rfl) ?_; go_big_quiet_step (fail); refine wpQuiet_nil ?_))
  (refine wpM_only _ (.bool sm) (by kernel_rfl) (by kernel_rfl) rfl (later_some _) ?_ ?_; (focus (intro x hx hk; obtain ⟨px, rfl⟩ := hx; go_simp; (first | with_reducible refine mUpon_enter ?_ | with_reducible refine mUpon_value ?_); go_at_call 16; exact (hS2 _ (n3.step (below_regrown w9 _ _)) (n4.step (below_regrown w9 _ _))).mo)); intro K hK; go_big_quiet_op; refine hK _ ?_; clear hK K)
  (repeat (refine wpM_via (by kernel_rfl) ?_; go_big_quiet_step (fail); refine wpQuiet_nil ?_))
  (refine wpM_spec _ (CsA dn) (by kernel_rfl) (by kernel_rfl) rfl (later_some _) ?_ ?_; (focus (intro x hx hk; obtain ⟨px, rfl⟩ := hx; go_simp; (first | with_reducible refine mUpon_enter ?_ | with_reducible refine mUpon_value ?_); go_at_call 17; exact Calls.mcsA (hK _ (n8.step (below_regrown w9 _ _))))); intro v hv K hK; obtain ⟨E1, E2, E3, e1, e2, e3, rfl⟩ := hv; go_big_quiet_op; refine hK _ ?_; clear hK K)
  (repeat (refine wpM_via (by kernel_rfl) ?_; go_big_quiet_step (fail); refine wpQuiet_nil ?_))
  (refine wpM_only _ (.bool true) (by kernel_rfl) (by kernel_rfl) rfl (later_some _) ?_ ?_; (focus (intro x hx hk; obtain ⟨px, rfl⟩ := hx; go_simp; (first | with_reducible refine mUpon_enter ?_ | with_reducible refine mUpon_value ?_); go_at_call 16; exact (hS3 _ _ (hk.1 (by kernel_rfl)) (n10.step (below_regrown w9 _ _))).mo)); intro K hK; go_big_quiet_op; refine hK _ ?_; clear hK K)
  (repeat (refine wpM_via (by kernel_rfl) ?_; go_big_quiet_step (fail); refine wpQuiet_nil ?_))
  (refine wpM_only _ (.bool true) (by kernel_rfl) (by kernel_rfl) rfl (later_some _) ?_ ?_; (focus (intro x hx hk; obtain ⟨px, rfl⟩ := hx; go_simp; (first | with_reducible refine mUpon_enter ?_ | with_reducible refine mUpon_value ?_); go_at_call 8; exact (awake04_any _).mo)); intro K hK; go_big_quiet_op; refine hK _ ?_; clear hK K)
  (repeat (refine wpM_via (by kernel_rfl) ?_; go_big_quiet_step (fail); refine wpQuiet_nil ?_))
  refine wpM_nil ?_; intro wq hwq hfq; have hbq := below_of_class hwq; clear hwq kq; (try dsimp only [List.drop])
  go_wp2
  go_ret
  exact ⟨rfl, hb.step hbq⟩
end Go.Proofs.Ythicpjfdljgfpaa
