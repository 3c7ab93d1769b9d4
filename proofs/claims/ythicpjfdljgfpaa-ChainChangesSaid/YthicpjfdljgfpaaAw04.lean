/- callboylaw04: awake; the chain's contracts by states in memory. -/
import Derived.Test.YthicpjfdljgfpaaChz
import Derived.Deep.DeepCutAuto
namespace Go.Proofs.Ythicpjfdljgfpaa
open Go.RowKit Go.Sort
set_option linter.unusedSimpArgs false
set_option linter.unusedVariables false

section
variable (V : Value) (st : Ch) (w : World) (h1 : st.ns.length ≤ 1000) (h2 : st.hs.length ≤ 1000) (h3 : st.ts.length ≤ 1000) (h : CsAt w V st)
include h1 h2 h3 h
theorem chain_Walk_at (list : Int) : Calls Try.prog 25 #[V, .int .i64 list] w fun e w' => ∃ O co, e = .returned (.slice O (cWalkR st list).length co) ∧ w'.ownsRow w.heap.size 3 1 (.slice O (cWalkR st list).length co) (cWalkR st list).length (ints (nI (cWalkR st list))) ∧ Below w.heap.size w w' := by
  obtain ⟨A, B, C, a, b, c, rfl, r1, r2, r3⟩ := h
  exact chain_Walk_any A B C a b c st list w h1 h2 h3 r1 r2 r3
theorem chain_Back_at (list : Int) : Calls Try.prog 27 #[V, .int .i64 list] w fun e w' => ∃ O co, e = .returned (.slice O (dBack st list).length co) ∧ w'.ownsRow w.heap.size 3 1 (.slice O (dBack st list).length co) (dBack st list).length (ints (nI (dBack st list))) ∧ Below w.heap.size w w' := by
  obtain ⟨A, B, C, a, b, c, rfl, r1, r2, r3⟩ := h
  exact chain_Back_any A B C a b c st list w h1 h2 h3 r1 r2 r3
theorem chain_Front_at (list : Int) : Calls Try.prog 29 #[V, .int .i64 list] w fun e w' => e = .returned (.int .i64 (cFront st list)) ∧ Below w.heap.size w w' := by
  obtain ⟨A, B, C, a, b, c, rfl, r1, r2, r3⟩ := h
  exact chain_Front_any A B C a b c st list w h1 h2 h3 r1 r2 r3
theorem chain_Len_at (list : Int) : Calls Try.prog 31 #[V, .int .i64 list] w fun e w' => e = .returned (.int .i64 ((cWalkR st list).length : Int)) ∧ Below w.heap.size w w' := by
  obtain ⟨A, B, C, a, b, c, rfl, r1, r2, r3⟩ := h
  exact chain_Len_any A B C a b c st list w h1 h2 h3 r1 r2 r3
theorem chain_Check_at : Calls Try.prog 22 #[V] w fun e w' => e = .returned (.int .i64 (cCheck st)) ∧ Below w.heap.size w w' := by
  obtain ⟨A, B, C, a, b, c, rfl, r1, r2, r3⟩ := h
  exact chain_Check_any A B C a b c st w h1 h2 h3 r1 r2 r3
end
theorem chain_Same_at (V V' : Value) (st st' : Ch) (w : World) (h1 : st.ns.length ≤ 1000) (h2 : st.hs.length ≤ 1000) (h3 : st.ts.length ≤ 1000) (h : CsAt w V st) (h' : CsAt w V' st') : Calls Try.prog 33 #[V, V'] w fun e w' => e = .returned (.bool (cSame st st')) ∧ Below w.heap.size w w' := by
  obtain ⟨A, B, C, a, b, c, rfl, r1, r2, r3⟩ := h
  obtain ⟨A', B', C', a', b', c', rfl, r1', r2', r3'⟩ := h'
  exact chain_Same_any A B C A' B' C' a b c a' b' c' st st' w h1 h2 h3 r1 r2 r3 r1' r2' r3'
def aS0 : Ch := laid 4 [[], []]
def aS1 : Ch := laid 4 [[3], []]
def aS2 : Ch := laid 4 [[3, 1], []]
def aS3 : Ch := laid 4 [[3, 1], [2]]
def aSB : Ch := laid 4 [[1, 3], [2]]
def aSC : Ch := laid 4 [[3, 1, 2], []]
def aSD : Ch := laid 4 [[3, 2], []]
theorem aw_N : dNew 4 2 = (aS0, 0) := by kernel_rfl
theorem aw_P1 : cPush aS0 0 3 = (aS1, 0) := by kernel_rfl
theorem aw_P2 : cPush aS1 0 1 = (aS2, 0) := by kernel_rfl
theorem aw_P3 : cPush aS2 1 2 = (aS3, 0) := by kernel_rfl
theorem aw_P4 : cPush aS3 1 3 = (aS3, 13) := by kernel_rfl
theorem aw_T : cTurn aS3 0 = aSB := by kernel_rfl
theorem aw_S : dSplice aS3 1 0 = (aSC, 0) := by kernel_rfl
theorem aw_U1 : cUnlink aSC 1 = (aSD, 0) := by kernel_rfl
theorem aw_U2 : cUnlink aSD 1 = (aSD, 6) := by kernel_rfl
theorem aw_W1 : cWalkR aS3 0 = [3, 1] := by kernel_rfl
theorem aw_W2 : cWalkR aSB 0 = [1, 3] := by kernel_rfl
theorem aw_B : dBack aSC 0 = [2, 1, 3] := by kernel_rfl
theorem aw_W3 : cWalkR aSD 0 = [3, 2] := by kernel_rfl
theorem aw_F1 : cFront aSD 0 = 3 := by kernel_rfl
theorem aw_F2 : cFront aSD 1 = -1 := by kernel_rfl
theorem aw_L : cWalkR aSC 0 = [3, 1, 2] := by kernel_rfl
theorem aw_C1 : cCheck aSD = 0 := by kernel_rfl
theorem aw_C2 : cCheck ⟨[], [], []⟩ = 5 := by kernel_rfl
theorem chain_Check_nil (w : World) : Calls Try.prog 22 #[csV none none none 0 0 0 0 0 0] w fun e w' => e = .returned (.int .i64 5) ∧ Below w.heap.size w w' := by
  have h := chain_Check_any none none none 0 0 0 ⟨[], [], []⟩ w (by decide) (by decide) (by decide) Rd.nil Rd.nil Rd.nil
  rw [aw_C2] at h
  exact h
theorem aw_E1 : cSame aSC aSD = false := by kernel_rfl
theorem aw_E2 : cSame aSD aSD = true := by kernel_rfl
theorem aw_l (n : Nat) (L : List (List Nat)) (h1 : n ≤ 1000) (h2 : L.length ≤ 1000) : (laid n L).ns.length ≤ 1000 ∧ (laid n L).hs.length ≤ 1000 ∧ (laid n L).ts.length ≤ 1000 := by
  obtain ⟨a, b, c⟩ := laid_lens n L
  omega
set_option maxRecDepth 100000 in
set_option maxHeartbeats 16000000 in
theorem awake04_any (w : World) : Calls Try.prog 8 #[] w fun e w' => e = .returned (.bool true) ∧ Below w.heap.size w w' := by
  have hN := fun W => chain_New_any 4 2 W
  have hP1 := fun V W h => chain_Push_any V aS0 0 3 W (by decide) (by decide) (by decide) h
  have hP2 := fun V W h => chain_Push_any V aS1 0 1 W (by decide) (by decide) (by decide) h
  have hP3 := fun V W h => chain_Push_any V aS2 1 2 W (by decide) (by decide) (by decide) h
  have hP4 := fun V W h => chain_Push_any V aS3 1 3 W (by decide) (by decide) (by decide) h
  have hT := fun V W h => chain_Turn_any V aS3 0 W (by decide) (by decide) (by decide) h
  have hS := fun V W h => chain_Splice_any V aS3 1 0 W (by decide) (by decide) (by decide) h
  have hU1 := fun V W h => chain_Unlink_any V aSC 1 W (by decide) (by decide) (by decide) h
  have hU2 := fun V W h => chain_Unlink_any V aSD 1 W (by decide) (by decide) (by decide) h
  simp only [aw_N] at hN
  simp only [aw_P1] at hP1
  simp only [aw_P2] at hP2
  simp only [aw_P3] at hP3
  simp only [aw_P4] at hP4
  simp only [aw_T] at hT
  simp only [aw_S] at hS
  simp only [aw_U1] at hU1
  simp only [aw_U2] at hU2
  replace hN := hide hN
  replace hP1 := hide hP1
  replace hP2 := hide hP2
  replace hP3 := hide hP3
  replace hP4 := hide hP4
  replace hT := hide hT
  replace hS := hide hS
  replace hU1 := hide hU1
  replace hU2 := hide hU2
  go_enter Try.func8, Try.ntmps8
  go_wp2_with fail
  refine (hN.out _).mono ?_; rintro e w1 ⟨_, rfl, hn, hy⟩
  have hb := hy
  have hsz := hb.size
  clear hN hy
  obtain ⟨A0, B0, C0, a0, b0, c0, rfl, hq⟩ := hn
  have n0 : CsNew w.heap.size _ (csV A0 B0 C0 a0 b0 c0 aS0.ns.length aS0.hs.length aS0.ts.length) aS0 := ⟨A0, B0, C0, a0, b0, c0, rfl, hq⟩
  clear hq
  have hszq := hb.size
  go_wp2_with fail
  generalize hV : World.alloc w1 _ = w2
  have hy : Below w1.heap.size w1 w2 := by subst hV; (repeat (first | with_reducible exact Below.refl _ _ | with_reducible assumption | with_reducible refine Below.drew ?_ | with_reducible refine Below.drewN ?_ _ | with_reducible refine Below.alloc1 ?_ _ | with_reducible refine Below.setCell1 ?_ (by first | omega | (simp; done) | (simp; omega)) _ | with_reducible refine Below.step ?_ (by with_reducible assumption)))
  have k1 : Bk w2 w1.heap.size 30 (csC A0 B0 C0 a0 b0 c0 aS0.ns.length aS0.hs.length aS0.ts.length) := by subst hV; (repeat (first | with_reducible exact Bk.new' _ _ _ _ (by simp; done) | with_reducible assumption | with_reducible refine Bk.alloc ?_ _ | with_reducible refine Bk.drew ?_ | with_reducible refine Bk.drewN ?_ _ | with_reducible refine Bk.step ?_ (by with_reducible assumption) | with_reducible refine Bk.far ?_ (by first | omega | (simp; done) | (simp; omega)) _))
  clear hV
  replace n0 := n0.step hy
  replace hb := hb.step hy
  clear hy
  have gsk1 : w.heap.size ≤ w1.heap.size ∧ w1.heap.size < w2.heap.size := ⟨hszq, k1.lt⟩
  clear hszq
  generalize w1.heap.size = gk1 at *
  have k1_0 := k1.cell 0; have k1_f0 := k1.frozen 0; have k1_1 := k1.cell 1; have k1_f1 := k1.frozen 1; have k1_2 := k1.cell 2; have k1_f2 := k1.frozen 2; simp only [List.set_cons_zero, List.set_cons_succ, List.getElem?_cons_zero, List.getElem?_cons_succ] at k1_0 k1_1 k1_2; have lt_k1 := k1.lt
  have hsz := hb.size
  refine (hP1.out _ _ n0.at_).mono ?_; rintro e w3 ⟨_, rfl, hn, hy⟩
  clear hP1 n0
  replace k1 := k1.step hy; (try clear k1_0 k1_f0 k1_1 k1_f1 k1_2 k1_f2); have k1_0 := k1.cell 0; have k1_f0 := k1.frozen 0; have k1_1 := k1.cell 1; have k1_f1 := k1.frozen 1; have k1_2 := k1.cell 2; have k1_f2 := k1.frozen 2; simp only [List.set_cons_zero, List.set_cons_succ, List.getElem?_cons_zero, List.getElem?_cons_succ] at k1_0 k1_1 k1_2; (try clear lt_k1); have lt_k1 := k1.lt
  replace hb := hb.step hy
  have hgs : gk1 < w2.heap.size := by omega
  obtain ⟨A1, B1, C1, a1, b1, c1, rfl, hq⟩ := hn
  have n1 : CsNew w2.heap.size _ (csV A1 B1 C1 a1 b1 c1 aS1.ns.length aS1.hs.length aS1.ts.length) aS1 := ⟨A1, B1, C1, a1, b1, c1, rfl, hq⟩
  clear hq
  clear hy
  (try clear k1_0 k1_f0 k1_1 k1_f1 k1_2 k1_f2 lt_k1)
  go_upto_region 3 with ((refine wpList_store_row rfl 30 _ _ rfl _ (csC A1 B1 C1 a1 b1 c1 aS1.ns.length aS1.hs.length aS1.ts.length).toArray rfl rfl _ _ k1 (by kernel_rfl) (by kernel_rfl) (by kernel_rfl) ?_))
  have q1 := k1
  replace k1 := k1.row (csC A1 B1 C1 a1 b1 c1 aS1.ns.length aS1.hs.length aS1.ts.length)
  replace n1 := n1.row q1 (by decide) (by decide) (csC A1 B1 C1 a1 b1 c1 aS1.ns.length aS1.hs.length aS1.ts.length).toArray
  replace hb : Below w.heap.size w (w3.setRow gk1 (csC A1 B1 C1 a1 b1 c1 aS1.ns.length aS1.hs.length aS1.ts.length).toArray) := setRow_below hb (by omega) (csC A1 B1 C1 a1 b1 c1 aS1.ns.length aS1.hs.length aS1.ts.length).toArray
  clear hgs q1
  have hgs2 : w3.heap.size ≤ (w3.setRow gk1 (csC A1 B1 C1 a1 b1 c1 aS1.ns.length aS1.hs.length aS1.ts.length).toArray).heap.size := by rw [setRow_size]; omega
  generalize w3.setRow gk1 (csC A1 B1 C1 a1 b1 c1 aS1.ns.length aS1.hs.length aS1.ts.length).toArray = w4 at *
  have lt_k1 := k1.lt
  have k1_0 := k1.cell 0; have k1_f0 := k1.frozen 0; have k1_1 := k1.cell 1; have k1_f1 := k1.frozen 1; have k1_2 := k1.cell 2; have k1_f2 := k1.frozen 2; simp only [List.set_cons_zero, List.set_cons_succ, List.getElem?_cons_zero, List.getElem?_cons_succ] at k1_0 k1_1 k1_2; have lt_k1 := k1.lt
  go_wp2_with fail
  have hsz := hb.size
  refine (hP2.out _ _ n1.at_).mono ?_; rintro e w5 ⟨_, rfl, hn, hy⟩
  clear hP2 n1
  replace k1 := k1.step hy; (try clear k1_0 k1_f0 k1_1 k1_f1 k1_2 k1_f2); have k1_0 := k1.cell 0; have k1_f0 := k1.frozen 0; have k1_1 := k1.cell 1; have k1_f1 := k1.frozen 1; have k1_2 := k1.cell 2; have k1_f2 := k1.frozen 2; simp only [List.set_cons_zero, List.set_cons_succ, List.getElem?_cons_zero, List.getElem?_cons_succ] at k1_0 k1_1 k1_2; (try clear lt_k1); have lt_k1 := k1.lt
  replace hb := hb.step hy
  have hgs : gk1 < w4.heap.size := by omega
  obtain ⟨A2, B2, C2, a2, b2, c2, rfl, hq⟩ := hn
  have n2 : CsNew w4.heap.size _ (csV A2 B2 C2 a2 b2 c2 aS2.ns.length aS2.hs.length aS2.ts.length) aS2 := ⟨A2, B2, C2, a2, b2, c2, rfl, hq⟩
  clear hq
  clear hy
  (try clear k1_0 k1_f0 k1_1 k1_f1 k1_2 k1_f2 lt_k1)
  go_upto_region 4 with ((refine wpList_store_row rfl 30 _ _ rfl _ (csC A2 B2 C2 a2 b2 c2 aS2.ns.length aS2.hs.length aS2.ts.length).toArray rfl rfl _ _ k1 (by kernel_rfl) (by kernel_rfl) (by kernel_rfl) ?_))
  have q1 := k1
  replace k1 := k1.row (csC A2 B2 C2 a2 b2 c2 aS2.ns.length aS2.hs.length aS2.ts.length)
  replace n2 := n2.row q1 (by decide) (by decide) (csC A2 B2 C2 a2 b2 c2 aS2.ns.length aS2.hs.length aS2.ts.length).toArray
  replace hb : Below w.heap.size w (w5.setRow gk1 (csC A2 B2 C2 a2 b2 c2 aS2.ns.length aS2.hs.length aS2.ts.length).toArray) := setRow_below hb (by omega) (csC A2 B2 C2 a2 b2 c2 aS2.ns.length aS2.hs.length aS2.ts.length).toArray
  clear hgs q1
  have hgs2 : w5.heap.size ≤ (w5.setRow gk1 (csC A2 B2 C2 a2 b2 c2 aS2.ns.length aS2.hs.length aS2.ts.length).toArray).heap.size := by rw [setRow_size]; omega
  generalize w5.setRow gk1 (csC A2 B2 C2 a2 b2 c2 aS2.ns.length aS2.hs.length aS2.ts.length).toArray = w6 at *
  have lt_k1 := k1.lt
  have k1_0 := k1.cell 0; have k1_f0 := k1.frozen 0; have k1_1 := k1.cell 1; have k1_f1 := k1.frozen 1; have k1_2 := k1.cell 2; have k1_f2 := k1.frozen 2; simp only [List.set_cons_zero, List.set_cons_succ, List.getElem?_cons_zero, List.getElem?_cons_succ] at k1_0 k1_1 k1_2; have lt_k1 := k1.lt
  go_wp2_with fail
  have hsz := hb.size
  refine (hP3.out _ _ n2.at_).mono ?_; rintro e w7 ⟨_, rfl, hn, hy⟩
  clear hP3 n2
  replace k1 := k1.step hy; (try clear k1_0 k1_f0 k1_1 k1_f1 k1_2 k1_f2); have k1_0 := k1.cell 0; have k1_f0 := k1.frozen 0; have k1_1 := k1.cell 1; have k1_f1 := k1.frozen 1; have k1_2 := k1.cell 2; have k1_f2 := k1.frozen 2; simp only [List.set_cons_zero, List.set_cons_succ, List.getElem?_cons_zero, List.getElem?_cons_succ] at k1_0 k1_1 k1_2; (try clear lt_k1); have lt_k1 := k1.lt
  replace hb := hb.step hy
  have hgs : gk1 < w6.heap.size := by omega
  obtain ⟨A3, B3, C3, a3, b3, c3, rfl, hq⟩ := hn
  have n3 : CsNew w6.heap.size _ (csV A3 B3 C3 a3 b3 c3 aS3.ns.length aS3.hs.length aS3.ts.length) aS3 := ⟨A3, B3, C3, a3, b3, c3, rfl, hq⟩
  clear hq
  clear hy
  (try clear k1_0 k1_f0 k1_1 k1_f1 k1_2 k1_f2 lt_k1)
  go_upto_region 5 with ((refine wpList_store_row rfl 30 _ _ rfl _ (csC A3 B3 C3 a3 b3 c3 aS3.ns.length aS3.hs.length aS3.ts.length).toArray rfl rfl _ _ k1 (by kernel_rfl) (by kernel_rfl) (by kernel_rfl) ?_))
  have q1 := k1
  replace k1 := k1.row (csC A3 B3 C3 a3 b3 c3 aS3.ns.length aS3.hs.length aS3.ts.length)
  replace n3 := n3.row q1 (by decide) (by decide) (csC A3 B3 C3 a3 b3 c3 aS3.ns.length aS3.hs.length aS3.ts.length).toArray
  replace hb : Below w.heap.size w (w7.setRow gk1 (csC A3 B3 C3 a3 b3 c3 aS3.ns.length aS3.hs.length aS3.ts.length).toArray) := setRow_below hb (by omega) (csC A3 B3 C3 a3 b3 c3 aS3.ns.length aS3.hs.length aS3.ts.length).toArray
  clear hgs q1
  have hgs2 : w7.heap.size ≤ (w7.setRow gk1 (csC A3 B3 C3 a3 b3 c3 aS3.ns.length aS3.hs.length aS3.ts.length).toArray).heap.size := by rw [setRow_size]; omega
  generalize w7.setRow gk1 (csC A3 B3 C3 a3 b3 c3 aS3.ns.length aS3.hs.length aS3.ts.length).toArray = w8 at *
  have lt_k1 := k1.lt
  have k1_0 := k1.cell 0; have k1_f0 := k1.frozen 0; have k1_1 := k1.cell 1; have k1_f1 := k1.frozen 1; have k1_2 := k1.cell 2; have k1_f2 := k1.frozen 2; simp only [List.set_cons_zero, List.set_cons_succ, List.getElem?_cons_zero, List.getElem?_cons_succ] at k1_0 k1_1 k1_2; have lt_k1 := k1.lt
  go_wp2_with fail
  have hsz := hb.size
  refine (hP4.out _ _ n3.at_).mono ?_; rintro e w9 ⟨_, rfl, hn, hy⟩
  clear hP4
  replace k1 := k1.step hy; (try clear k1_0 k1_f0 k1_1 k1_f1 k1_2 k1_f2); have k1_0 := k1.cell 0; have k1_f0 := k1.frozen 0; have k1_1 := k1.cell 1; have k1_f1 := k1.frozen 1; have k1_2 := k1.cell 2; have k1_f2 := k1.frozen 2; simp only [List.set_cons_zero, List.set_cons_succ, List.getElem?_cons_zero, List.getElem?_cons_succ] at k1_0 k1_1 k1_2; (try clear lt_k1); have lt_k1 := k1.lt
  replace n3 := n3.step hy
  replace hb := hb.step hy
  obtain ⟨A4, B4, C4, a4, b4, c4, rfl, hq⟩ := hn
  have n4 : CsNew w8.heap.size _ (csV A4 B4 C4 a4 b4 c4 aS3.ns.length aS3.hs.length aS3.ts.length) aS3 := ⟨A4, B4, C4, a4, b4, c4, rfl, hq⟩
  clear hq
  clear hy
  have hszq := hb.size
  go_wp2_with fail
  generalize hV : World.alloc w9 _ = w10
  have hy : Below w9.heap.size w9 w10 := by subst hV; (repeat (first | with_reducible exact Below.refl _ _ | with_reducible assumption | with_reducible refine Below.drew ?_ | with_reducible refine Below.drewN ?_ _ | with_reducible refine Below.alloc1 ?_ _ | with_reducible refine Below.setCell1 ?_ (by first | omega | (simp; done) | (simp; omega)) _ | with_reducible refine Below.step ?_ (by with_reducible assumption)))
  have k4 : Bk w10 w9.heap.size 30 (csC A4 B4 C4 a4 b4 c4 aS3.ns.length aS3.hs.length aS3.ts.length) := by subst hV; (repeat (first | with_reducible exact Bk.new' _ _ _ _ (by simp; done) | with_reducible assumption | with_reducible refine Bk.alloc ?_ _ | with_reducible refine Bk.drew ?_ | with_reducible refine Bk.drewN ?_ _ | with_reducible refine Bk.step ?_ (by with_reducible assumption) | with_reducible refine Bk.far ?_ (by first | omega | (simp; done) | (simp; omega)) _))
  clear hV
  replace k1 := k1.step hy; (try clear k1_0 k1_f0 k1_1 k1_f1 k1_2 k1_f2); have k1_0 := k1.cell 0; have k1_f0 := k1.frozen 0; have k1_1 := k1.cell 1; have k1_f1 := k1.frozen 1; have k1_2 := k1.cell 2; have k1_f2 := k1.frozen 2; simp only [List.set_cons_zero, List.set_cons_succ, List.getElem?_cons_zero, List.getElem?_cons_succ] at k1_0 k1_1 k1_2; (try clear lt_k1); have lt_k1 := k1.lt
  replace n3 := n3.step hy
  replace n4 := n4.step hy
  replace hb := hb.step hy
  clear hy
  have gsk4 : w.heap.size ≤ w9.heap.size ∧ w9.heap.size < w10.heap.size := ⟨hszq, k4.lt⟩
  clear hszq
  generalize w9.heap.size = gk4 at *
  have k4_0 := k4.cell 0; have k4_f0 := k4.frozen 0; have k4_1 := k4.cell 1; have k4_f1 := k4.frozen 1; have k4_2 := k4.cell 2; have k4_f2 := k4.frozen 2; simp only [List.set_cons_zero, List.set_cons_succ, List.getElem?_cons_zero, List.getElem?_cons_succ] at k4_0 k4_1 k4_2; have lt_k4 := k4.lt
  (try clear k4_0 k4_f0 k4_1 k4_f1 k4_2 k4_f2 lt_k4)
  clear k4 n4 gsk4
  have hsz := hb.size
  refine (hT.out _ _ n3.at_).mono ?_; rintro e w11 ⟨_, rfl, hn, hy⟩
  clear hT
  replace k1 := k1.step hy; (try clear k1_0 k1_f0 k1_1 k1_f1 k1_2 k1_f2); have k1_0 := k1.cell 0; have k1_f0 := k1.frozen 0; have k1_1 := k1.cell 1; have k1_f1 := k1.frozen 1; have k1_2 := k1.cell 2; have k1_f2 := k1.frozen 2; simp only [List.set_cons_zero, List.set_cons_succ, List.getElem?_cons_zero, List.getElem?_cons_succ] at k1_0 k1_1 k1_2; (try clear lt_k1); have lt_k1 := k1.lt
  replace n3 := n3.step hy
  replace hb := hb.step hy
  obtain ⟨A5, B5, C5, a5, b5, c5, rfl, hq⟩ := hn
  have n5 : CsNew w10.heap.size _ (csV A5 B5 C5 a5 b5 c5 aSB.ns.length aSB.hs.length aSB.ts.length) aSB := ⟨A5, B5, C5, a5, b5, c5, rfl, hq⟩
  clear hq
  clear hy
  have hszq := hb.size
  go_wp2_with fail
  generalize hV : World.alloc w11 _ = w12
  have hy : Below w11.heap.size w11 w12 := by subst hV; (repeat (first | with_reducible exact Below.refl _ _ | with_reducible assumption | with_reducible refine Below.drew ?_ | with_reducible refine Below.drewN ?_ _ | with_reducible refine Below.alloc1 ?_ _ | with_reducible refine Below.setCell1 ?_ (by first | omega | (simp; done) | (simp; omega)) _ | with_reducible refine Below.step ?_ (by with_reducible assumption)))
  have k8 : Bk w12 w11.heap.size 30 (csC A5 B5 C5 a5 b5 c5 aSB.ns.length aSB.hs.length aSB.ts.length) := by subst hV; (repeat (first | with_reducible exact Bk.new' _ _ _ _ (by simp; done) | with_reducible assumption | with_reducible refine Bk.alloc ?_ _ | with_reducible refine Bk.drew ?_ | with_reducible refine Bk.drewN ?_ _ | with_reducible refine Bk.step ?_ (by with_reducible assumption) | with_reducible refine Bk.far ?_ (by first | omega | (simp; done) | (simp; omega)) _))
  clear hV
  replace k1 := k1.step hy; (try clear k1_0 k1_f0 k1_1 k1_f1 k1_2 k1_f2); have k1_0 := k1.cell 0; have k1_f0 := k1.frozen 0; have k1_1 := k1.cell 1; have k1_f1 := k1.frozen 1; have k1_2 := k1.cell 2; have k1_f2 := k1.frozen 2; simp only [List.set_cons_zero, List.set_cons_succ, List.getElem?_cons_zero, List.getElem?_cons_succ] at k1_0 k1_1 k1_2; (try clear lt_k1); have lt_k1 := k1.lt
  replace n3 := n3.step hy
  replace n5 := n5.step hy
  replace hb := hb.step hy
  clear hy
  have gsk8 : w.heap.size ≤ w11.heap.size ∧ w11.heap.size < w12.heap.size := ⟨hszq, k8.lt⟩
  clear hszq
  generalize w11.heap.size = gk8 at *
  have k8_0 := k8.cell 0; have k8_f0 := k8.frozen 0; have k8_1 := k8.cell 1; have k8_f1 := k8.frozen 1; have k8_2 := k8.cell 2; have k8_f2 := k8.frozen 2; simp only [List.set_cons_zero, List.set_cons_succ, List.getElem?_cons_zero, List.getElem?_cons_succ] at k8_0 k8_1 k8_2; have lt_k8 := k8.lt
  have hsz := hb.size
  refine (hS.out _ _ n3.at_).mono ?_; rintro e w13 ⟨_, rfl, hn, hy⟩
  clear hS
  replace k1 := k1.step hy; (try clear k1_0 k1_f0 k1_1 k1_f1 k1_2 k1_f2); have k1_0 := k1.cell 0; have k1_f0 := k1.frozen 0; have k1_1 := k1.cell 1; have k1_f1 := k1.frozen 1; have k1_2 := k1.cell 2; have k1_f2 := k1.frozen 2; simp only [List.set_cons_zero, List.set_cons_succ, List.getElem?_cons_zero, List.getElem?_cons_succ] at k1_0 k1_1 k1_2; (try clear lt_k1); have lt_k1 := k1.lt; replace k8 := k8.step hy; (try clear k8_0 k8_f0 k8_1 k8_f1 k8_2 k8_f2); have k8_0 := k8.cell 0; have k8_f0 := k8.frozen 0; have k8_1 := k8.cell 1; have k8_f1 := k8.frozen 1; have k8_2 := k8.cell 2; have k8_f2 := k8.frozen 2; simp only [List.set_cons_zero, List.set_cons_succ, List.getElem?_cons_zero, List.getElem?_cons_succ] at k8_0 k8_1 k8_2; (try clear lt_k8); have lt_k8 := k8.lt
  replace n3 := n3.step hy
  replace n5 := n5.step hy
  replace hb := hb.step hy
  obtain ⟨A6, B6, C6, a6, b6, c6, rfl, hq⟩ := hn
  have n6 : CsNew w12.heap.size _ (csV A6 B6 C6 a6 b6 c6 aSC.ns.length aSC.hs.length aSC.ts.length) aSC := ⟨A6, B6, C6, a6, b6, c6, rfl, hq⟩
  clear hq
  clear hy
  have hszq := hb.size
  go_wp2_with fail
  generalize hV : World.alloc w13 _ = w14
  have hy : Below w13.heap.size w13 w14 := by subst hV; (repeat (first | with_reducible exact Below.refl _ _ | with_reducible assumption | with_reducible refine Below.drew ?_ | with_reducible refine Below.drewN ?_ _ | with_reducible refine Below.alloc1 ?_ _ | with_reducible refine Below.setCell1 ?_ (by first | omega | (simp; done) | (simp; omega)) _ | with_reducible refine Below.step ?_ (by with_reducible assumption)))
  have k9 : Bk w14 w13.heap.size 30 (csC A6 B6 C6 a6 b6 c6 aSC.ns.length aSC.hs.length aSC.ts.length) := by subst hV; (repeat (first | with_reducible exact Bk.new' _ _ _ _ (by simp; done) | with_reducible assumption | with_reducible refine Bk.alloc ?_ _ | with_reducible refine Bk.drew ?_ | with_reducible refine Bk.drewN ?_ _ | with_reducible refine Bk.step ?_ (by with_reducible assumption) | with_reducible refine Bk.far ?_ (by first | omega | (simp; done) | (simp; omega)) _))
  clear hV
  replace k1 := k1.step hy; (try clear k1_0 k1_f0 k1_1 k1_f1 k1_2 k1_f2); have k1_0 := k1.cell 0; have k1_f0 := k1.frozen 0; have k1_1 := k1.cell 1; have k1_f1 := k1.frozen 1; have k1_2 := k1.cell 2; have k1_f2 := k1.frozen 2; simp only [List.set_cons_zero, List.set_cons_succ, List.getElem?_cons_zero, List.getElem?_cons_succ] at k1_0 k1_1 k1_2; (try clear lt_k1); have lt_k1 := k1.lt; replace k8 := k8.step hy; (try clear k8_0 k8_f0 k8_1 k8_f1 k8_2 k8_f2); have k8_0 := k8.cell 0; have k8_f0 := k8.frozen 0; have k8_1 := k8.cell 1; have k8_f1 := k8.frozen 1; have k8_2 := k8.cell 2; have k8_f2 := k8.frozen 2; simp only [List.set_cons_zero, List.set_cons_succ, List.getElem?_cons_zero, List.getElem?_cons_succ] at k8_0 k8_1 k8_2; (try clear lt_k8); have lt_k8 := k8.lt
  replace n3 := n3.step hy
  replace n5 := n5.step hy
  replace n6 := n6.step hy
  replace hb := hb.step hy
  clear hy
  have gsk9 : w.heap.size ≤ w13.heap.size ∧ w13.heap.size < w14.heap.size := ⟨hszq, k9.lt⟩
  clear hszq
  generalize w13.heap.size = gk9 at *
  have k9_0 := k9.cell 0; have k9_f0 := k9.frozen 0; have k9_1 := k9.cell 1; have k9_f1 := k9.frozen 1; have k9_2 := k9.cell 2; have k9_f2 := k9.frozen 2; simp only [List.set_cons_zero, List.set_cons_succ, List.getElem?_cons_zero, List.getElem?_cons_succ] at k9_0 k9_1 k9_2; have lt_k9 := k9.lt
  have hsz := hb.size
  refine (hU1.out _ _ n6.at_).mono ?_; rintro e w15 ⟨_, rfl, hn, hy⟩
  clear hU1
  replace k1 := k1.step hy; (try clear k1_0 k1_f0 k1_1 k1_f1 k1_2 k1_f2); have k1_0 := k1.cell 0; have k1_f0 := k1.frozen 0; have k1_1 := k1.cell 1; have k1_f1 := k1.frozen 1; have k1_2 := k1.cell 2; have k1_f2 := k1.frozen 2; simp only [List.set_cons_zero, List.set_cons_succ, List.getElem?_cons_zero, List.getElem?_cons_succ] at k1_0 k1_1 k1_2; (try clear lt_k1); have lt_k1 := k1.lt; replace k8 := k8.step hy; (try clear k8_0 k8_f0 k8_1 k8_f1 k8_2 k8_f2); have k8_0 := k8.cell 0; have k8_f0 := k8.frozen 0; have k8_1 := k8.cell 1; have k8_f1 := k8.frozen 1; have k8_2 := k8.cell 2; have k8_f2 := k8.frozen 2; simp only [List.set_cons_zero, List.set_cons_succ, List.getElem?_cons_zero, List.getElem?_cons_succ] at k8_0 k8_1 k8_2; (try clear lt_k8); have lt_k8 := k8.lt; replace k9 := k9.step hy; (try clear k9_0 k9_f0 k9_1 k9_f1 k9_2 k9_f2); have k9_0 := k9.cell 0; have k9_f0 := k9.frozen 0; have k9_1 := k9.cell 1; have k9_f1 := k9.frozen 1; have k9_2 := k9.cell 2; have k9_f2 := k9.frozen 2; simp only [List.set_cons_zero, List.set_cons_succ, List.getElem?_cons_zero, List.getElem?_cons_succ] at k9_0 k9_1 k9_2; (try clear lt_k9); have lt_k9 := k9.lt
  replace n3 := n3.step hy
  replace n5 := n5.step hy
  replace n6 := n6.step hy
  replace hb := hb.step hy
  obtain ⟨A7, B7, C7, a7, b7, c7, rfl, hq⟩ := hn
  have n7 : CsNew w14.heap.size _ (csV A7 B7 C7 a7 b7 c7 aSD.ns.length aSD.hs.length aSD.ts.length) aSD := ⟨A7, B7, C7, a7, b7, c7, rfl, hq⟩
  clear hq
  clear hy
  have hszq := hb.size
  go_wp2_with fail
  generalize hV : World.alloc w15 _ = w16
  have hy : Below w15.heap.size w15 w16 := by subst hV; (repeat (first | with_reducible exact Below.refl _ _ | with_reducible assumption | with_reducible refine Below.drew ?_ | with_reducible refine Below.drewN ?_ _ | with_reducible refine Below.alloc1 ?_ _ | with_reducible refine Below.setCell1 ?_ (by first | omega | (simp; done) | (simp; omega)) _ | with_reducible refine Below.step ?_ (by with_reducible assumption)))
  have k11 : Bk w16 w15.heap.size 30 (csC A7 B7 C7 a7 b7 c7 aSD.ns.length aSD.hs.length aSD.ts.length) := by subst hV; (repeat (first | with_reducible exact Bk.new' _ _ _ _ (by simp; done) | with_reducible assumption | with_reducible refine Bk.alloc ?_ _ | with_reducible refine Bk.drew ?_ | with_reducible refine Bk.drewN ?_ _ | with_reducible refine Bk.step ?_ (by with_reducible assumption) | with_reducible refine Bk.far ?_ (by first | omega | (simp; done) | (simp; omega)) _))
  clear hV
  replace k1 := k1.step hy; (try clear k1_0 k1_f0 k1_1 k1_f1 k1_2 k1_f2); have k1_0 := k1.cell 0; have k1_f0 := k1.frozen 0; have k1_1 := k1.cell 1; have k1_f1 := k1.frozen 1; have k1_2 := k1.cell 2; have k1_f2 := k1.frozen 2; simp only [List.set_cons_zero, List.set_cons_succ, List.getElem?_cons_zero, List.getElem?_cons_succ] at k1_0 k1_1 k1_2; (try clear lt_k1); have lt_k1 := k1.lt; replace k8 := k8.step hy; (try clear k8_0 k8_f0 k8_1 k8_f1 k8_2 k8_f2); have k8_0 := k8.cell 0; have k8_f0 := k8.frozen 0; have k8_1 := k8.cell 1; have k8_f1 := k8.frozen 1; have k8_2 := k8.cell 2; have k8_f2 := k8.frozen 2; simp only [List.set_cons_zero, List.set_cons_succ, List.getElem?_cons_zero, List.getElem?_cons_succ] at k8_0 k8_1 k8_2; (try clear lt_k8); have lt_k8 := k8.lt; replace k9 := k9.step hy; (try clear k9_0 k9_f0 k9_1 k9_f1 k9_2 k9_f2); have k9_0 := k9.cell 0; have k9_f0 := k9.frozen 0; have k9_1 := k9.cell 1; have k9_f1 := k9.frozen 1; have k9_2 := k9.cell 2; have k9_f2 := k9.frozen 2; simp only [List.set_cons_zero, List.set_cons_succ, List.getElem?_cons_zero, List.getElem?_cons_succ] at k9_0 k9_1 k9_2; (try clear lt_k9); have lt_k9 := k9.lt
  replace n3 := n3.step hy
  replace n5 := n5.step hy
  replace n6 := n6.step hy
  replace n7 := n7.step hy
  replace hb := hb.step hy
  clear hy
  have gsk11 : w.heap.size ≤ w15.heap.size ∧ w15.heap.size < w16.heap.size := ⟨hszq, k11.lt⟩
  clear hszq
  generalize w15.heap.size = gk11 at *
  have k11_0 := k11.cell 0; have k11_f0 := k11.frozen 0; have k11_1 := k11.cell 1; have k11_f1 := k11.frozen 1; have k11_2 := k11.cell 2; have k11_f2 := k11.frozen 2; simp only [List.set_cons_zero, List.set_cons_succ, List.getElem?_cons_zero, List.getElem?_cons_succ] at k11_0 k11_1 k11_2; have lt_k11 := k11.lt
  have hsz := hb.size
  refine (hU2.out _ _ n7.at_).mono ?_; rintro e w17 ⟨_, rfl, hn, hy⟩
  clear hU2
  replace k1 := k1.step hy; (try clear k1_0 k1_f0 k1_1 k1_f1 k1_2 k1_f2); have k1_0 := k1.cell 0; have k1_f0 := k1.frozen 0; have k1_1 := k1.cell 1; have k1_f1 := k1.frozen 1; have k1_2 := k1.cell 2; have k1_f2 := k1.frozen 2; simp only [List.set_cons_zero, List.set_cons_succ, List.getElem?_cons_zero, List.getElem?_cons_succ] at k1_0 k1_1 k1_2; (try clear lt_k1); have lt_k1 := k1.lt; replace k8 := k8.step hy; (try clear k8_0 k8_f0 k8_1 k8_f1 k8_2 k8_f2); have k8_0 := k8.cell 0; have k8_f0 := k8.frozen 0; have k8_1 := k8.cell 1; have k8_f1 := k8.frozen 1; have k8_2 := k8.cell 2; have k8_f2 := k8.frozen 2; simp only [List.set_cons_zero, List.set_cons_succ, List.getElem?_cons_zero, List.getElem?_cons_succ] at k8_0 k8_1 k8_2; (try clear lt_k8); have lt_k8 := k8.lt; replace k9 := k9.step hy; (try clear k9_0 k9_f0 k9_1 k9_f1 k9_2 k9_f2); have k9_0 := k9.cell 0; have k9_f0 := k9.frozen 0; have k9_1 := k9.cell 1; have k9_f1 := k9.frozen 1; have k9_2 := k9.cell 2; have k9_f2 := k9.frozen 2; simp only [List.set_cons_zero, List.set_cons_succ, List.getElem?_cons_zero, List.getElem?_cons_succ] at k9_0 k9_1 k9_2; (try clear lt_k9); have lt_k9 := k9.lt; replace k11 := k11.step hy; (try clear k11_0 k11_f0 k11_1 k11_f1 k11_2 k11_f2); have k11_0 := k11.cell 0; have k11_f0 := k11.frozen 0; have k11_1 := k11.cell 1; have k11_f1 := k11.frozen 1; have k11_2 := k11.cell 2; have k11_f2 := k11.frozen 2; simp only [List.set_cons_zero, List.set_cons_succ, List.getElem?_cons_zero, List.getElem?_cons_succ] at k11_0 k11_1 k11_2; (try clear lt_k11); have lt_k11 := k11.lt
  replace n3 := n3.step hy
  replace n5 := n5.step hy
  replace n6 := n6.step hy
  replace n7 := n7.step hy
  replace hb := hb.step hy
  obtain ⟨A8, B8, C8, a8, b8, c8, rfl, hq⟩ := hn
  have n8 : CsNew w16.heap.size _ (csV A8 B8 C8 a8 b8 c8 aSD.ns.length aSD.hs.length aSD.ts.length) aSD := ⟨A8, B8, C8, a8, b8, c8, rfl, hq⟩
  clear hq
  clear hy
  have hszq := hb.size
  go_wp2_with fail
  generalize hV : World.alloc w17 _ = w18
  have hy : Below w17.heap.size w17 w18 := by subst hV; (repeat (first | with_reducible exact Below.refl _ _ | with_reducible assumption | with_reducible refine Below.drew ?_ | with_reducible refine Below.drewN ?_ _ | with_reducible refine Below.alloc1 ?_ _ | with_reducible refine Below.setCell1 ?_ (by first | omega | (simp; done) | (simp; omega)) _ | with_reducible refine Below.step ?_ (by with_reducible assumption)))
  have k13 : Bk w18 w17.heap.size 30 (csC A8 B8 C8 a8 b8 c8 aSD.ns.length aSD.hs.length aSD.ts.length) := by subst hV; (repeat (first | with_reducible exact Bk.new' _ _ _ _ (by simp; done) | with_reducible assumption | with_reducible refine Bk.alloc ?_ _ | with_reducible refine Bk.drew ?_ | with_reducible refine Bk.drewN ?_ _ | with_reducible refine Bk.step ?_ (by with_reducible assumption) | with_reducible refine Bk.far ?_ (by first | omega | (simp; done) | (simp; omega)) _))
  clear hV
  replace k1 := k1.step hy; (try clear k1_0 k1_f0 k1_1 k1_f1 k1_2 k1_f2); have k1_0 := k1.cell 0; have k1_f0 := k1.frozen 0; have k1_1 := k1.cell 1; have k1_f1 := k1.frozen 1; have k1_2 := k1.cell 2; have k1_f2 := k1.frozen 2; simp only [List.set_cons_zero, List.set_cons_succ, List.getElem?_cons_zero, List.getElem?_cons_succ] at k1_0 k1_1 k1_2; (try clear lt_k1); have lt_k1 := k1.lt; replace k8 := k8.step hy; (try clear k8_0 k8_f0 k8_1 k8_f1 k8_2 k8_f2); have k8_0 := k8.cell 0; have k8_f0 := k8.frozen 0; have k8_1 := k8.cell 1; have k8_f1 := k8.frozen 1; have k8_2 := k8.cell 2; have k8_f2 := k8.frozen 2; simp only [List.set_cons_zero, List.set_cons_succ, List.getElem?_cons_zero, List.getElem?_cons_succ] at k8_0 k8_1 k8_2; (try clear lt_k8); have lt_k8 := k8.lt; replace k9 := k9.step hy; (try clear k9_0 k9_f0 k9_1 k9_f1 k9_2 k9_f2); have k9_0 := k9.cell 0; have k9_f0 := k9.frozen 0; have k9_1 := k9.cell 1; have k9_f1 := k9.frozen 1; have k9_2 := k9.cell 2; have k9_f2 := k9.frozen 2; simp only [List.set_cons_zero, List.set_cons_succ, List.getElem?_cons_zero, List.getElem?_cons_succ] at k9_0 k9_1 k9_2; (try clear lt_k9); have lt_k9 := k9.lt; replace k11 := k11.step hy; (try clear k11_0 k11_f0 k11_1 k11_f1 k11_2 k11_f2); have k11_0 := k11.cell 0; have k11_f0 := k11.frozen 0; have k11_1 := k11.cell 1; have k11_f1 := k11.frozen 1; have k11_2 := k11.cell 2; have k11_f2 := k11.frozen 2; simp only [List.set_cons_zero, List.set_cons_succ, List.getElem?_cons_zero, List.getElem?_cons_succ] at k11_0 k11_1 k11_2; (try clear lt_k11); have lt_k11 := k11.lt
  replace n3 := n3.step hy
  replace n5 := n5.step hy
  replace n6 := n6.step hy
  replace n7 := n7.step hy
  replace n8 := n8.step hy
  replace hb := hb.step hy
  clear hy
  have gsk13 : w.heap.size ≤ w17.heap.size ∧ w17.heap.size < w18.heap.size := ⟨hszq, k13.lt⟩
  clear hszq
  generalize w17.heap.size = gk13 at *
  have k13_0 := k13.cell 0; have k13_f0 := k13.frozen 0; have k13_1 := k13.cell 1; have k13_f1 := k13.frozen 1; have k13_2 := k13.cell 2; have k13_f2 := k13.frozen 2; simp only [List.set_cons_zero, List.set_cons_succ, List.getElem?_cons_zero, List.getElem?_cons_succ] at k13_0 k13_1 k13_2; have lt_k13 := k13.lt
  (try clear k13_0 k13_f0 k13_1 k13_f1 k13_2 k13_f2 lt_k13)
  clear k13 n8 gsk13
  have CT := chain_Walk_at _ aS3 _ (by decide) (by decide) (by decide) n3.at_ 0
  rw [aw_W1] at CT
  refine CT.mono ?_; rintro e w19 ⟨O, co, rfl, ow, hy⟩
  clear CT
  replace k1 := k1.step hy; (try clear k1_0 k1_f0 k1_1 k1_f1 k1_2 k1_f2); have k1_0 := k1.cell 0; have k1_f0 := k1.frozen 0; have k1_1 := k1.cell 1; have k1_f1 := k1.frozen 1; have k1_2 := k1.cell 2; have k1_f2 := k1.frozen 2; simp only [List.set_cons_zero, List.set_cons_succ, List.getElem?_cons_zero, List.getElem?_cons_succ] at k1_0 k1_1 k1_2; (try clear lt_k1); have lt_k1 := k1.lt; replace k8 := k8.step hy; (try clear k8_0 k8_f0 k8_1 k8_f1 k8_2 k8_f2); have k8_0 := k8.cell 0; have k8_f0 := k8.frozen 0; have k8_1 := k8.cell 1; have k8_f1 := k8.frozen 1; have k8_2 := k8.cell 2; have k8_f2 := k8.frozen 2; simp only [List.set_cons_zero, List.set_cons_succ, List.getElem?_cons_zero, List.getElem?_cons_succ] at k8_0 k8_1 k8_2; (try clear lt_k8); have lt_k8 := k8.lt; replace k9 := k9.step hy; (try clear k9_0 k9_f0 k9_1 k9_f1 k9_2 k9_f2); have k9_0 := k9.cell 0; have k9_f0 := k9.frozen 0; have k9_1 := k9.cell 1; have k9_f1 := k9.frozen 1; have k9_2 := k9.cell 2; have k9_f2 := k9.frozen 2; simp only [List.set_cons_zero, List.set_cons_succ, List.getElem?_cons_zero, List.getElem?_cons_succ] at k9_0 k9_1 k9_2; (try clear lt_k9); have lt_k9 := k9.lt; replace k11 := k11.step hy; (try clear k11_0 k11_f0 k11_1 k11_f1 k11_2 k11_f2); have k11_0 := k11.cell 0; have k11_f0 := k11.frozen 0; have k11_1 := k11.cell 1; have k11_f1 := k11.frozen 1; have k11_2 := k11.cell 2; have k11_f2 := k11.frozen 2; simp only [List.set_cons_zero, List.set_cons_succ, List.getElem?_cons_zero, List.getElem?_cons_succ] at k11_0 k11_1 k11_2; (try clear lt_k11); have lt_k11 := k11.lt
  replace n3 := n3.step hy
  replace n5 := n5.step hy
  replace n6 := n6.step hy
  replace n7 := n7.step hy
  replace hb := hb.step hy
  clear hy
  have rO : Rd w19 w19.heap.size O (ints [3, 1]) := own_rd ow
  clear ow
  go_wp2_with fail
  generalize hV : World.alloc w19 _ = w20
  have hy : Below w19.heap.size w19 w20 := by subst hV; (repeat (first | with_reducible exact Below.refl _ _ | with_reducible assumption | with_reducible refine Below.drew ?_ | with_reducible refine Below.drewN ?_ _ | with_reducible refine Below.alloc1 ?_ _ | with_reducible refine Below.setCell1 ?_ (by first | omega | (simp; done) | (simp; omega)) _ | with_reducible refine Below.step ?_ (by with_reducible assumption)))
  have kS : Bk w20 w19.heap.size 3 (ints [3, 1]) := by subst hV; exact Bk.new' w19 3 (ints [3, 1]) _ rfl
  clear hV
  replace k1 := k1.step hy; (try clear k1_0 k1_f0 k1_1 k1_f1 k1_2 k1_f2); have k1_0 := k1.cell 0; have k1_f0 := k1.frozen 0; have k1_1 := k1.cell 1; have k1_f1 := k1.frozen 1; have k1_2 := k1.cell 2; have k1_f2 := k1.frozen 2; simp only [List.set_cons_zero, List.set_cons_succ, List.getElem?_cons_zero, List.getElem?_cons_succ] at k1_0 k1_1 k1_2; (try clear lt_k1); have lt_k1 := k1.lt; replace k8 := k8.step hy; (try clear k8_0 k8_f0 k8_1 k8_f1 k8_2 k8_f2); have k8_0 := k8.cell 0; have k8_f0 := k8.frozen 0; have k8_1 := k8.cell 1; have k8_f1 := k8.frozen 1; have k8_2 := k8.cell 2; have k8_f2 := k8.frozen 2; simp only [List.set_cons_zero, List.set_cons_succ, List.getElem?_cons_zero, List.getElem?_cons_succ] at k8_0 k8_1 k8_2; (try clear lt_k8); have lt_k8 := k8.lt; replace k9 := k9.step hy; (try clear k9_0 k9_f0 k9_1 k9_f1 k9_2 k9_f2); have k9_0 := k9.cell 0; have k9_f0 := k9.frozen 0; have k9_1 := k9.cell 1; have k9_f1 := k9.frozen 1; have k9_2 := k9.cell 2; have k9_f2 := k9.frozen 2; simp only [List.set_cons_zero, List.set_cons_succ, List.getElem?_cons_zero, List.getElem?_cons_succ] at k9_0 k9_1 k9_2; (try clear lt_k9); have lt_k9 := k9.lt; replace k11 := k11.step hy; (try clear k11_0 k11_f0 k11_1 k11_f1 k11_2 k11_f2); have k11_0 := k11.cell 0; have k11_f0 := k11.frozen 0; have k11_1 := k11.cell 1; have k11_f1 := k11.frozen 1; have k11_2 := k11.cell 2; have k11_f2 := k11.frozen 2; simp only [List.set_cons_zero, List.set_cons_succ, List.getElem?_cons_zero, List.getElem?_cons_succ] at k11_0 k11_1 k11_2; (try clear lt_k11); have lt_k11 := k11.lt
  replace n3 := n3.step hy
  replace n5 := n5.step hy
  replace n6 := n6.step hy
  replace n7 := n7.step hy
  replace hb := hb.step hy
  replace rO := rO.step hy
  clear hy
  have SI := SameInts_any O (some ⟨w19.heap.size, 0, none⟩) co 2 [3, 1] [3, 1] _ (by unfold maxLen; simp) rO kS.rd
  rw [show decide (([3, 1] : List Int) = [3, 1]) = true from rfl] at SI
  refine SI.mono ?_; rintro e w21 ⟨rfl, hq⟩
  have hy := qt_below hq
  clear SI kS rO hq
  replace k1 := k1.step hy; (try clear k1_0 k1_f0 k1_1 k1_f1 k1_2 k1_f2); have k1_0 := k1.cell 0; have k1_f0 := k1.frozen 0; have k1_1 := k1.cell 1; have k1_f1 := k1.frozen 1; have k1_2 := k1.cell 2; have k1_f2 := k1.frozen 2; simp only [List.set_cons_zero, List.set_cons_succ, List.getElem?_cons_zero, List.getElem?_cons_succ] at k1_0 k1_1 k1_2; (try clear lt_k1); have lt_k1 := k1.lt; replace k8 := k8.step hy; (try clear k8_0 k8_f0 k8_1 k8_f1 k8_2 k8_f2); have k8_0 := k8.cell 0; have k8_f0 := k8.frozen 0; have k8_1 := k8.cell 1; have k8_f1 := k8.frozen 1; have k8_2 := k8.cell 2; have k8_f2 := k8.frozen 2; simp only [List.set_cons_zero, List.set_cons_succ, List.getElem?_cons_zero, List.getElem?_cons_succ] at k8_0 k8_1 k8_2; (try clear lt_k8); have lt_k8 := k8.lt; replace k9 := k9.step hy; (try clear k9_0 k9_f0 k9_1 k9_f1 k9_2 k9_f2); have k9_0 := k9.cell 0; have k9_f0 := k9.frozen 0; have k9_1 := k9.cell 1; have k9_f1 := k9.frozen 1; have k9_2 := k9.cell 2; have k9_f2 := k9.frozen 2; simp only [List.set_cons_zero, List.set_cons_succ, List.getElem?_cons_zero, List.getElem?_cons_succ] at k9_0 k9_1 k9_2; (try clear lt_k9); have lt_k9 := k9.lt; replace k11 := k11.step hy; (try clear k11_0 k11_f0 k11_1 k11_f1 k11_2 k11_f2); have k11_0 := k11.cell 0; have k11_f0 := k11.frozen 0; have k11_1 := k11.cell 1; have k11_f1 := k11.frozen 1; have k11_2 := k11.cell 2; have k11_f2 := k11.frozen 2; simp only [List.set_cons_zero, List.set_cons_succ, List.getElem?_cons_zero, List.getElem?_cons_succ] at k11_0 k11_1 k11_2; (try clear lt_k11); have lt_k11 := k11.lt
  replace n3 := n3.step hy
  replace n5 := n5.step hy
  replace n6 := n6.step hy
  replace n7 := n7.step hy
  replace hb := hb.step hy
  clear hy
  go_wp2_with fail
  have CT := chain_Walk_at _ aSB _ (by decide) (by decide) (by decide) n5.at_ 0
  rw [aw_W2] at CT
  refine CT.mono ?_; rintro e w22 ⟨O, co, rfl, ow, hy⟩
  clear CT
  replace k1 := k1.step hy; (try clear k1_0 k1_f0 k1_1 k1_f1 k1_2 k1_f2); have k1_0 := k1.cell 0; have k1_f0 := k1.frozen 0; have k1_1 := k1.cell 1; have k1_f1 := k1.frozen 1; have k1_2 := k1.cell 2; have k1_f2 := k1.frozen 2; simp only [List.set_cons_zero, List.set_cons_succ, List.getElem?_cons_zero, List.getElem?_cons_succ] at k1_0 k1_1 k1_2; (try clear lt_k1); have lt_k1 := k1.lt; replace k8 := k8.step hy; (try clear k8_0 k8_f0 k8_1 k8_f1 k8_2 k8_f2); have k8_0 := k8.cell 0; have k8_f0 := k8.frozen 0; have k8_1 := k8.cell 1; have k8_f1 := k8.frozen 1; have k8_2 := k8.cell 2; have k8_f2 := k8.frozen 2; simp only [List.set_cons_zero, List.set_cons_succ, List.getElem?_cons_zero, List.getElem?_cons_succ] at k8_0 k8_1 k8_2; (try clear lt_k8); have lt_k8 := k8.lt; replace k9 := k9.step hy; (try clear k9_0 k9_f0 k9_1 k9_f1 k9_2 k9_f2); have k9_0 := k9.cell 0; have k9_f0 := k9.frozen 0; have k9_1 := k9.cell 1; have k9_f1 := k9.frozen 1; have k9_2 := k9.cell 2; have k9_f2 := k9.frozen 2; simp only [List.set_cons_zero, List.set_cons_succ, List.getElem?_cons_zero, List.getElem?_cons_succ] at k9_0 k9_1 k9_2; (try clear lt_k9); have lt_k9 := k9.lt; replace k11 := k11.step hy; (try clear k11_0 k11_f0 k11_1 k11_f1 k11_2 k11_f2); have k11_0 := k11.cell 0; have k11_f0 := k11.frozen 0; have k11_1 := k11.cell 1; have k11_f1 := k11.frozen 1; have k11_2 := k11.cell 2; have k11_f2 := k11.frozen 2; simp only [List.set_cons_zero, List.set_cons_succ, List.getElem?_cons_zero, List.getElem?_cons_succ] at k11_0 k11_1 k11_2; (try clear lt_k11); have lt_k11 := k11.lt
  replace n3 := n3.step hy
  replace n5 := n5.step hy
  replace n6 := n6.step hy
  replace n7 := n7.step hy
  replace hb := hb.step hy
  clear hy
  have rO : Rd w22 w22.heap.size O (ints [1, 3]) := own_rd ow
  clear ow
  go_wp2_with fail
  generalize hV : World.alloc w22 _ = w23
  have hy : Below w22.heap.size w22 w23 := by subst hV; (repeat (first | with_reducible exact Below.refl _ _ | with_reducible assumption | with_reducible refine Below.drew ?_ | with_reducible refine Below.drewN ?_ _ | with_reducible refine Below.alloc1 ?_ _ | with_reducible refine Below.setCell1 ?_ (by first | omega | (simp; done) | (simp; omega)) _ | with_reducible refine Below.step ?_ (by with_reducible assumption)))
  have kS : Bk w23 w22.heap.size 3 (ints [1, 3]) := by subst hV; exact Bk.new' w22 3 (ints [1, 3]) _ rfl
  clear hV
  replace k1 := k1.step hy; (try clear k1_0 k1_f0 k1_1 k1_f1 k1_2 k1_f2); have k1_0 := k1.cell 0; have k1_f0 := k1.frozen 0; have k1_1 := k1.cell 1; have k1_f1 := k1.frozen 1; have k1_2 := k1.cell 2; have k1_f2 := k1.frozen 2; simp only [List.set_cons_zero, List.set_cons_succ, List.getElem?_cons_zero, List.getElem?_cons_succ] at k1_0 k1_1 k1_2; (try clear lt_k1); have lt_k1 := k1.lt; replace k8 := k8.step hy; (try clear k8_0 k8_f0 k8_1 k8_f1 k8_2 k8_f2); have k8_0 := k8.cell 0; have k8_f0 := k8.frozen 0; have k8_1 := k8.cell 1; have k8_f1 := k8.frozen 1; have k8_2 := k8.cell 2; have k8_f2 := k8.frozen 2; simp only [List.set_cons_zero, List.set_cons_succ, List.getElem?_cons_zero, List.getElem?_cons_succ] at k8_0 k8_1 k8_2; (try clear lt_k8); have lt_k8 := k8.lt; replace k9 := k9.step hy; (try clear k9_0 k9_f0 k9_1 k9_f1 k9_2 k9_f2); have k9_0 := k9.cell 0; have k9_f0 := k9.frozen 0; have k9_1 := k9.cell 1; have k9_f1 := k9.frozen 1; have k9_2 := k9.cell 2; have k9_f2 := k9.frozen 2; simp only [List.set_cons_zero, List.set_cons_succ, List.getElem?_cons_zero, List.getElem?_cons_succ] at k9_0 k9_1 k9_2; (try clear lt_k9); have lt_k9 := k9.lt; replace k11 := k11.step hy; (try clear k11_0 k11_f0 k11_1 k11_f1 k11_2 k11_f2); have k11_0 := k11.cell 0; have k11_f0 := k11.frozen 0; have k11_1 := k11.cell 1; have k11_f1 := k11.frozen 1; have k11_2 := k11.cell 2; have k11_f2 := k11.frozen 2; simp only [List.set_cons_zero, List.set_cons_succ, List.getElem?_cons_zero, List.getElem?_cons_succ] at k11_0 k11_1 k11_2; (try clear lt_k11); have lt_k11 := k11.lt
  replace n3 := n3.step hy
  replace n5 := n5.step hy
  replace n6 := n6.step hy
  replace n7 := n7.step hy
  replace hb := hb.step hy
  replace rO := rO.step hy
  clear hy
  have SI := SameInts_any O (some ⟨w22.heap.size, 0, none⟩) co 2 [1, 3] [1, 3] _ (by unfold maxLen; simp) rO kS.rd
  rw [show decide (([1, 3] : List Int) = [1, 3]) = true from rfl] at SI
  refine SI.mono ?_; rintro e w24 ⟨rfl, hq⟩
  have hy := qt_below hq
  clear SI kS rO hq
  replace k1 := k1.step hy; (try clear k1_0 k1_f0 k1_1 k1_f1 k1_2 k1_f2); have k1_0 := k1.cell 0; have k1_f0 := k1.frozen 0; have k1_1 := k1.cell 1; have k1_f1 := k1.frozen 1; have k1_2 := k1.cell 2; have k1_f2 := k1.frozen 2; simp only [List.set_cons_zero, List.set_cons_succ, List.getElem?_cons_zero, List.getElem?_cons_succ] at k1_0 k1_1 k1_2; (try clear lt_k1); have lt_k1 := k1.lt; replace k8 := k8.step hy; (try clear k8_0 k8_f0 k8_1 k8_f1 k8_2 k8_f2); have k8_0 := k8.cell 0; have k8_f0 := k8.frozen 0; have k8_1 := k8.cell 1; have k8_f1 := k8.frozen 1; have k8_2 := k8.cell 2; have k8_f2 := k8.frozen 2; simp only [List.set_cons_zero, List.set_cons_succ, List.getElem?_cons_zero, List.getElem?_cons_succ] at k8_0 k8_1 k8_2; (try clear lt_k8); have lt_k8 := k8.lt; replace k9 := k9.step hy; (try clear k9_0 k9_f0 k9_1 k9_f1 k9_2 k9_f2); have k9_0 := k9.cell 0; have k9_f0 := k9.frozen 0; have k9_1 := k9.cell 1; have k9_f1 := k9.frozen 1; have k9_2 := k9.cell 2; have k9_f2 := k9.frozen 2; simp only [List.set_cons_zero, List.set_cons_succ, List.getElem?_cons_zero, List.getElem?_cons_succ] at k9_0 k9_1 k9_2; (try clear lt_k9); have lt_k9 := k9.lt; replace k11 := k11.step hy; (try clear k11_0 k11_f0 k11_1 k11_f1 k11_2 k11_f2); have k11_0 := k11.cell 0; have k11_f0 := k11.frozen 0; have k11_1 := k11.cell 1; have k11_f1 := k11.frozen 1; have k11_2 := k11.cell 2; have k11_f2 := k11.frozen 2; simp only [List.set_cons_zero, List.set_cons_succ, List.getElem?_cons_zero, List.getElem?_cons_succ] at k11_0 k11_1 k11_2; (try clear lt_k11); have lt_k11 := k11.lt
  replace n3 := n3.step hy
  replace n5 := n5.step hy
  replace n6 := n6.step hy
  replace n7 := n7.step hy
  replace hb := hb.step hy
  clear hy
  go_wp2_with fail
  have CT := chain_Back_at _ aSC _ (by decide) (by decide) (by decide) n6.at_ 0
  rw [aw_B] at CT
  refine CT.mono ?_; rintro e w25 ⟨O, co, rfl, ow, hy⟩
  clear CT
  replace k1 := k1.step hy; (try clear k1_0 k1_f0 k1_1 k1_f1 k1_2 k1_f2); have k1_0 := k1.cell 0; have k1_f0 := k1.frozen 0; have k1_1 := k1.cell 1; have k1_f1 := k1.frozen 1; have k1_2 := k1.cell 2; have k1_f2 := k1.frozen 2; simp only [List.set_cons_zero, List.set_cons_succ, List.getElem?_cons_zero, List.getElem?_cons_succ] at k1_0 k1_1 k1_2; (try clear lt_k1); have lt_k1 := k1.lt; replace k8 := k8.step hy; (try clear k8_0 k8_f0 k8_1 k8_f1 k8_2 k8_f2); have k8_0 := k8.cell 0; have k8_f0 := k8.frozen 0; have k8_1 := k8.cell 1; have k8_f1 := k8.frozen 1; have k8_2 := k8.cell 2; have k8_f2 := k8.frozen 2; simp only [List.set_cons_zero, List.set_cons_succ, List.getElem?_cons_zero, List.getElem?_cons_succ] at k8_0 k8_1 k8_2; (try clear lt_k8); have lt_k8 := k8.lt; replace k9 := k9.step hy; (try clear k9_0 k9_f0 k9_1 k9_f1 k9_2 k9_f2); have k9_0 := k9.cell 0; have k9_f0 := k9.frozen 0; have k9_1 := k9.cell 1; have k9_f1 := k9.frozen 1; have k9_2 := k9.cell 2; have k9_f2 := k9.frozen 2; simp only [List.set_cons_zero, List.set_cons_succ, List.getElem?_cons_zero, List.getElem?_cons_succ] at k9_0 k9_1 k9_2; (try clear lt_k9); have lt_k9 := k9.lt; replace k11 := k11.step hy; (try clear k11_0 k11_f0 k11_1 k11_f1 k11_2 k11_f2); have k11_0 := k11.cell 0; have k11_f0 := k11.frozen 0; have k11_1 := k11.cell 1; have k11_f1 := k11.frozen 1; have k11_2 := k11.cell 2; have k11_f2 := k11.frozen 2; simp only [List.set_cons_zero, List.set_cons_succ, List.getElem?_cons_zero, List.getElem?_cons_succ] at k11_0 k11_1 k11_2; (try clear lt_k11); have lt_k11 := k11.lt
  replace n3 := n3.step hy
  replace n5 := n5.step hy
  replace n6 := n6.step hy
  replace n7 := n7.step hy
  replace hb := hb.step hy
  clear hy
  have rO : Rd w25 w25.heap.size O (ints [2, 1, 3]) := own_rd ow
  clear ow
  go_wp2_with fail
  generalize hV : World.alloc w25 _ = w26
  have hy : Below w25.heap.size w25 w26 := by subst hV; (repeat (first | with_reducible exact Below.refl _ _ | with_reducible assumption | with_reducible refine Below.drew ?_ | with_reducible refine Below.drewN ?_ _ | with_reducible refine Below.alloc1 ?_ _ | with_reducible refine Below.setCell1 ?_ (by first | omega | (simp; done) | (simp; omega)) _ | with_reducible refine Below.step ?_ (by with_reducible assumption)))
  have kS : Bk w26 w25.heap.size 3 (ints [2, 1, 3]) := by subst hV; exact Bk.new' w25 3 (ints [2, 1, 3]) _ rfl
  clear hV
  replace k1 := k1.step hy; (try clear k1_0 k1_f0 k1_1 k1_f1 k1_2 k1_f2); have k1_0 := k1.cell 0; have k1_f0 := k1.frozen 0; have k1_1 := k1.cell 1; have k1_f1 := k1.frozen 1; have k1_2 := k1.cell 2; have k1_f2 := k1.frozen 2; simp only [List.set_cons_zero, List.set_cons_succ, List.getElem?_cons_zero, List.getElem?_cons_succ] at k1_0 k1_1 k1_2; (try clear lt_k1); have lt_k1 := k1.lt; replace k8 := k8.step hy; (try clear k8_0 k8_f0 k8_1 k8_f1 k8_2 k8_f2); have k8_0 := k8.cell 0; have k8_f0 := k8.frozen 0; have k8_1 := k8.cell 1; have k8_f1 := k8.frozen 1; have k8_2 := k8.cell 2; have k8_f2 := k8.frozen 2; simp only [List.set_cons_zero, List.set_cons_succ, List.getElem?_cons_zero, List.getElem?_cons_succ] at k8_0 k8_1 k8_2; (try clear lt_k8); have lt_k8 := k8.lt; replace k9 := k9.step hy; (try clear k9_0 k9_f0 k9_1 k9_f1 k9_2 k9_f2); have k9_0 := k9.cell 0; have k9_f0 := k9.frozen 0; have k9_1 := k9.cell 1; have k9_f1 := k9.frozen 1; have k9_2 := k9.cell 2; have k9_f2 := k9.frozen 2; simp only [List.set_cons_zero, List.set_cons_succ, List.getElem?_cons_zero, List.getElem?_cons_succ] at k9_0 k9_1 k9_2; (try clear lt_k9); have lt_k9 := k9.lt; replace k11 := k11.step hy; (try clear k11_0 k11_f0 k11_1 k11_f1 k11_2 k11_f2); have k11_0 := k11.cell 0; have k11_f0 := k11.frozen 0; have k11_1 := k11.cell 1; have k11_f1 := k11.frozen 1; have k11_2 := k11.cell 2; have k11_f2 := k11.frozen 2; simp only [List.set_cons_zero, List.set_cons_succ, List.getElem?_cons_zero, List.getElem?_cons_succ] at k11_0 k11_1 k11_2; (try clear lt_k11); have lt_k11 := k11.lt
  replace n3 := n3.step hy
  replace n5 := n5.step hy
  replace n6 := n6.step hy
  replace n7 := n7.step hy
  replace hb := hb.step hy
  replace rO := rO.step hy
  clear hy
  have SI := SameInts_any O (some ⟨w25.heap.size, 0, none⟩) co 3 [2, 1, 3] [2, 1, 3] _ (by unfold maxLen; simp) rO kS.rd
  rw [show decide (([2, 1, 3] : List Int) = [2, 1, 3]) = true from rfl] at SI
  refine SI.mono ?_; rintro e w27 ⟨rfl, hq⟩
  have hy := qt_below hq
  clear SI kS rO hq
  replace k1 := k1.step hy; (try clear k1_0 k1_f0 k1_1 k1_f1 k1_2 k1_f2); have k1_0 := k1.cell 0; have k1_f0 := k1.frozen 0; have k1_1 := k1.cell 1; have k1_f1 := k1.frozen 1; have k1_2 := k1.cell 2; have k1_f2 := k1.frozen 2; simp only [List.set_cons_zero, List.set_cons_succ, List.getElem?_cons_zero, List.getElem?_cons_succ] at k1_0 k1_1 k1_2; (try clear lt_k1); have lt_k1 := k1.lt; replace k8 := k8.step hy; (try clear k8_0 k8_f0 k8_1 k8_f1 k8_2 k8_f2); have k8_0 := k8.cell 0; have k8_f0 := k8.frozen 0; have k8_1 := k8.cell 1; have k8_f1 := k8.frozen 1; have k8_2 := k8.cell 2; have k8_f2 := k8.frozen 2; simp only [List.set_cons_zero, List.set_cons_succ, List.getElem?_cons_zero, List.getElem?_cons_succ] at k8_0 k8_1 k8_2; (try clear lt_k8); have lt_k8 := k8.lt; replace k9 := k9.step hy; (try clear k9_0 k9_f0 k9_1 k9_f1 k9_2 k9_f2); have k9_0 := k9.cell 0; have k9_f0 := k9.frozen 0; have k9_1 := k9.cell 1; have k9_f1 := k9.frozen 1; have k9_2 := k9.cell 2; have k9_f2 := k9.frozen 2; simp only [List.set_cons_zero, List.set_cons_succ, List.getElem?_cons_zero, List.getElem?_cons_succ] at k9_0 k9_1 k9_2; (try clear lt_k9); have lt_k9 := k9.lt; replace k11 := k11.step hy; (try clear k11_0 k11_f0 k11_1 k11_f1 k11_2 k11_f2); have k11_0 := k11.cell 0; have k11_f0 := k11.frozen 0; have k11_1 := k11.cell 1; have k11_f1 := k11.frozen 1; have k11_2 := k11.cell 2; have k11_f2 := k11.frozen 2; simp only [List.set_cons_zero, List.set_cons_succ, List.getElem?_cons_zero, List.getElem?_cons_succ] at k11_0 k11_1 k11_2; (try clear lt_k11); have lt_k11 := k11.lt
  replace n3 := n3.step hy
  replace n5 := n5.step hy
  replace n6 := n6.step hy
  replace n7 := n7.step hy
  replace hb := hb.step hy
  clear hy
  go_wp2_with fail
  have CT := chain_Walk_at _ aSD _ (by decide) (by decide) (by decide) n7.at_ 0
  rw [aw_W3] at CT
  refine CT.mono ?_; rintro e w28 ⟨O, co, rfl, ow, hy⟩
  clear CT
  replace k1 := k1.step hy; (try clear k1_0 k1_f0 k1_1 k1_f1 k1_2 k1_f2); have k1_0 := k1.cell 0; have k1_f0 := k1.frozen 0; have k1_1 := k1.cell 1; have k1_f1 := k1.frozen 1; have k1_2 := k1.cell 2; have k1_f2 := k1.frozen 2; simp only [List.set_cons_zero, List.set_cons_succ, List.getElem?_cons_zero, List.getElem?_cons_succ] at k1_0 k1_1 k1_2; (try clear lt_k1); have lt_k1 := k1.lt; replace k8 := k8.step hy; (try clear k8_0 k8_f0 k8_1 k8_f1 k8_2 k8_f2); have k8_0 := k8.cell 0; have k8_f0 := k8.frozen 0; have k8_1 := k8.cell 1; have k8_f1 := k8.frozen 1; have k8_2 := k8.cell 2; have k8_f2 := k8.frozen 2; simp only [List.set_cons_zero, List.set_cons_succ, List.getElem?_cons_zero, List.getElem?_cons_succ] at k8_0 k8_1 k8_2; (try clear lt_k8); have lt_k8 := k8.lt; replace k9 := k9.step hy; (try clear k9_0 k9_f0 k9_1 k9_f1 k9_2 k9_f2); have k9_0 := k9.cell 0; have k9_f0 := k9.frozen 0; have k9_1 := k9.cell 1; have k9_f1 := k9.frozen 1; have k9_2 := k9.cell 2; have k9_f2 := k9.frozen 2; simp only [List.set_cons_zero, List.set_cons_succ, List.getElem?_cons_zero, List.getElem?_cons_succ] at k9_0 k9_1 k9_2; (try clear lt_k9); have lt_k9 := k9.lt; replace k11 := k11.step hy; (try clear k11_0 k11_f0 k11_1 k11_f1 k11_2 k11_f2); have k11_0 := k11.cell 0; have k11_f0 := k11.frozen 0; have k11_1 := k11.cell 1; have k11_f1 := k11.frozen 1; have k11_2 := k11.cell 2; have k11_f2 := k11.frozen 2; simp only [List.set_cons_zero, List.set_cons_succ, List.getElem?_cons_zero, List.getElem?_cons_succ] at k11_0 k11_1 k11_2; (try clear lt_k11); have lt_k11 := k11.lt
  replace n3 := n3.step hy
  replace n5 := n5.step hy
  replace n6 := n6.step hy
  replace n7 := n7.step hy
  replace hb := hb.step hy
  clear hy
  have rO : Rd w28 w28.heap.size O (ints [3, 2]) := own_rd ow
  clear ow
  go_wp2_with fail
  generalize hV : World.alloc w28 _ = w29
  have hy : Below w28.heap.size w28 w29 := by subst hV; (repeat (first | with_reducible exact Below.refl _ _ | with_reducible assumption | with_reducible refine Below.drew ?_ | with_reducible refine Below.drewN ?_ _ | with_reducible refine Below.alloc1 ?_ _ | with_reducible refine Below.setCell1 ?_ (by first | omega | (simp; done) | (simp; omega)) _ | with_reducible refine Below.step ?_ (by with_reducible assumption)))
  have kS : Bk w29 w28.heap.size 3 (ints [3, 2]) := by subst hV; exact Bk.new' w28 3 (ints [3, 2]) _ rfl
  clear hV
  replace k1 := k1.step hy; (try clear k1_0 k1_f0 k1_1 k1_f1 k1_2 k1_f2); have k1_0 := k1.cell 0; have k1_f0 := k1.frozen 0; have k1_1 := k1.cell 1; have k1_f1 := k1.frozen 1; have k1_2 := k1.cell 2; have k1_f2 := k1.frozen 2; simp only [List.set_cons_zero, List.set_cons_succ, List.getElem?_cons_zero, List.getElem?_cons_succ] at k1_0 k1_1 k1_2; (try clear lt_k1); have lt_k1 := k1.lt; replace k8 := k8.step hy; (try clear k8_0 k8_f0 k8_1 k8_f1 k8_2 k8_f2); have k8_0 := k8.cell 0; have k8_f0 := k8.frozen 0; have k8_1 := k8.cell 1; have k8_f1 := k8.frozen 1; have k8_2 := k8.cell 2; have k8_f2 := k8.frozen 2; simp only [List.set_cons_zero, List.set_cons_succ, List.getElem?_cons_zero, List.getElem?_cons_succ] at k8_0 k8_1 k8_2; (try clear lt_k8); have lt_k8 := k8.lt; replace k9 := k9.step hy; (try clear k9_0 k9_f0 k9_1 k9_f1 k9_2 k9_f2); have k9_0 := k9.cell 0; have k9_f0 := k9.frozen 0; have k9_1 := k9.cell 1; have k9_f1 := k9.frozen 1; have k9_2 := k9.cell 2; have k9_f2 := k9.frozen 2; simp only [List.set_cons_zero, List.set_cons_succ, List.getElem?_cons_zero, List.getElem?_cons_succ] at k9_0 k9_1 k9_2; (try clear lt_k9); have lt_k9 := k9.lt; replace k11 := k11.step hy; (try clear k11_0 k11_f0 k11_1 k11_f1 k11_2 k11_f2); have k11_0 := k11.cell 0; have k11_f0 := k11.frozen 0; have k11_1 := k11.cell 1; have k11_f1 := k11.frozen 1; have k11_2 := k11.cell 2; have k11_f2 := k11.frozen 2; simp only [List.set_cons_zero, List.set_cons_succ, List.getElem?_cons_zero, List.getElem?_cons_succ] at k11_0 k11_1 k11_2; (try clear lt_k11); have lt_k11 := k11.lt
  replace n3 := n3.step hy
  replace n5 := n5.step hy
  replace n6 := n6.step hy
  replace n7 := n7.step hy
  replace hb := hb.step hy
  replace rO := rO.step hy
  clear hy
  have SI := SameInts_any O (some ⟨w28.heap.size, 0, none⟩) co 2 [3, 2] [3, 2] _ (by unfold maxLen; simp) rO kS.rd
  rw [show decide (([3, 2] : List Int) = [3, 2]) = true from rfl] at SI
  refine SI.mono ?_; rintro e w30 ⟨rfl, hq⟩
  have hy := qt_below hq
  clear SI kS rO hq
  replace k1 := k1.step hy; (try clear k1_0 k1_f0 k1_1 k1_f1 k1_2 k1_f2); have k1_0 := k1.cell 0; have k1_f0 := k1.frozen 0; have k1_1 := k1.cell 1; have k1_f1 := k1.frozen 1; have k1_2 := k1.cell 2; have k1_f2 := k1.frozen 2; simp only [List.set_cons_zero, List.set_cons_succ, List.getElem?_cons_zero, List.getElem?_cons_succ] at k1_0 k1_1 k1_2; (try clear lt_k1); have lt_k1 := k1.lt; replace k8 := k8.step hy; (try clear k8_0 k8_f0 k8_1 k8_f1 k8_2 k8_f2); have k8_0 := k8.cell 0; have k8_f0 := k8.frozen 0; have k8_1 := k8.cell 1; have k8_f1 := k8.frozen 1; have k8_2 := k8.cell 2; have k8_f2 := k8.frozen 2; simp only [List.set_cons_zero, List.set_cons_succ, List.getElem?_cons_zero, List.getElem?_cons_succ] at k8_0 k8_1 k8_2; (try clear lt_k8); have lt_k8 := k8.lt; replace k9 := k9.step hy; (try clear k9_0 k9_f0 k9_1 k9_f1 k9_2 k9_f2); have k9_0 := k9.cell 0; have k9_f0 := k9.frozen 0; have k9_1 := k9.cell 1; have k9_f1 := k9.frozen 1; have k9_2 := k9.cell 2; have k9_f2 := k9.frozen 2; simp only [List.set_cons_zero, List.set_cons_succ, List.getElem?_cons_zero, List.getElem?_cons_succ] at k9_0 k9_1 k9_2; (try clear lt_k9); have lt_k9 := k9.lt; replace k11 := k11.step hy; (try clear k11_0 k11_f0 k11_1 k11_f1 k11_2 k11_f2); have k11_0 := k11.cell 0; have k11_f0 := k11.frozen 0; have k11_1 := k11.cell 1; have k11_f1 := k11.frozen 1; have k11_2 := k11.cell 2; have k11_f2 := k11.frozen 2; simp only [List.set_cons_zero, List.set_cons_succ, List.getElem?_cons_zero, List.getElem?_cons_succ] at k11_0 k11_1 k11_2; (try clear lt_k11); have lt_k11 := k11.lt
  replace n3 := n3.step hy
  replace n5 := n5.step hy
  replace n6 := n6.step hy
  replace n7 := n7.step hy
  replace hb := hb.step hy
  clear hy
  go_wp2_with fail
  have CT := chain_Front_at _ aSD _ (by decide) (by decide) (by decide) n7.at_ 0
  rw [aw_F1] at CT
  refine CT.mono ?_; rintro e w31 ⟨rfl, hy⟩
  clear CT
  replace k1 := k1.step hy; (try clear k1_0 k1_f0 k1_1 k1_f1 k1_2 k1_f2); have k1_0 := k1.cell 0; have k1_f0 := k1.frozen 0; have k1_1 := k1.cell 1; have k1_f1 := k1.frozen 1; have k1_2 := k1.cell 2; have k1_f2 := k1.frozen 2; simp only [List.set_cons_zero, List.set_cons_succ, List.getElem?_cons_zero, List.getElem?_cons_succ] at k1_0 k1_1 k1_2; (try clear lt_k1); have lt_k1 := k1.lt; replace k8 := k8.step hy; (try clear k8_0 k8_f0 k8_1 k8_f1 k8_2 k8_f2); have k8_0 := k8.cell 0; have k8_f0 := k8.frozen 0; have k8_1 := k8.cell 1; have k8_f1 := k8.frozen 1; have k8_2 := k8.cell 2; have k8_f2 := k8.frozen 2; simp only [List.set_cons_zero, List.set_cons_succ, List.getElem?_cons_zero, List.getElem?_cons_succ] at k8_0 k8_1 k8_2; (try clear lt_k8); have lt_k8 := k8.lt; replace k9 := k9.step hy; (try clear k9_0 k9_f0 k9_1 k9_f1 k9_2 k9_f2); have k9_0 := k9.cell 0; have k9_f0 := k9.frozen 0; have k9_1 := k9.cell 1; have k9_f1 := k9.frozen 1; have k9_2 := k9.cell 2; have k9_f2 := k9.frozen 2; simp only [List.set_cons_zero, List.set_cons_succ, List.getElem?_cons_zero, List.getElem?_cons_succ] at k9_0 k9_1 k9_2; (try clear lt_k9); have lt_k9 := k9.lt; replace k11 := k11.step hy; (try clear k11_0 k11_f0 k11_1 k11_f1 k11_2 k11_f2); have k11_0 := k11.cell 0; have k11_f0 := k11.frozen 0; have k11_1 := k11.cell 1; have k11_f1 := k11.frozen 1; have k11_2 := k11.cell 2; have k11_f2 := k11.frozen 2; simp only [List.set_cons_zero, List.set_cons_succ, List.getElem?_cons_zero, List.getElem?_cons_succ] at k11_0 k11_1 k11_2; (try clear lt_k11); have lt_k11 := k11.lt
  replace n3 := n3.step hy
  replace n5 := n5.step hy
  replace n6 := n6.step hy
  replace n7 := n7.step hy
  replace hb := hb.step hy
  clear hy
  go_wp2_with fail
  have CT := chain_Front_at _ aSD _ (by decide) (by decide) (by decide) n7.at_ 1
  rw [aw_F2] at CT
  refine CT.mono ?_; rintro e w32 ⟨rfl, hy⟩
  clear CT
  replace k1 := k1.step hy; (try clear k1_0 k1_f0 k1_1 k1_f1 k1_2 k1_f2); have k1_0 := k1.cell 0; have k1_f0 := k1.frozen 0; have k1_1 := k1.cell 1; have k1_f1 := k1.frozen 1; have k1_2 := k1.cell 2; have k1_f2 := k1.frozen 2; simp only [List.set_cons_zero, List.set_cons_succ, List.getElem?_cons_zero, List.getElem?_cons_succ] at k1_0 k1_1 k1_2; (try clear lt_k1); have lt_k1 := k1.lt; replace k8 := k8.step hy; (try clear k8_0 k8_f0 k8_1 k8_f1 k8_2 k8_f2); have k8_0 := k8.cell 0; have k8_f0 := k8.frozen 0; have k8_1 := k8.cell 1; have k8_f1 := k8.frozen 1; have k8_2 := k8.cell 2; have k8_f2 := k8.frozen 2; simp only [List.set_cons_zero, List.set_cons_succ, List.getElem?_cons_zero, List.getElem?_cons_succ] at k8_0 k8_1 k8_2; (try clear lt_k8); have lt_k8 := k8.lt; replace k9 := k9.step hy; (try clear k9_0 k9_f0 k9_1 k9_f1 k9_2 k9_f2); have k9_0 := k9.cell 0; have k9_f0 := k9.frozen 0; have k9_1 := k9.cell 1; have k9_f1 := k9.frozen 1; have k9_2 := k9.cell 2; have k9_f2 := k9.frozen 2; simp only [List.set_cons_zero, List.set_cons_succ, List.getElem?_cons_zero, List.getElem?_cons_succ] at k9_0 k9_1 k9_2; (try clear lt_k9); have lt_k9 := k9.lt; replace k11 := k11.step hy; (try clear k11_0 k11_f0 k11_1 k11_f1 k11_2 k11_f2); have k11_0 := k11.cell 0; have k11_f0 := k11.frozen 0; have k11_1 := k11.cell 1; have k11_f1 := k11.frozen 1; have k11_2 := k11.cell 2; have k11_f2 := k11.frozen 2; simp only [List.set_cons_zero, List.set_cons_succ, List.getElem?_cons_zero, List.getElem?_cons_succ] at k11_0 k11_1 k11_2; (try clear lt_k11); have lt_k11 := k11.lt
  replace n3 := n3.step hy
  replace n5 := n5.step hy
  replace n6 := n6.step hy
  replace n7 := n7.step hy
  replace hb := hb.step hy
  clear hy
  go_wp2_with fail
  have CT := chain_Len_at _ aSC _ (by decide) (by decide) (by decide) n6.at_ 0
  rw [aw_L] at CT
  refine CT.mono ?_; rintro e w33 ⟨rfl, hy⟩
  clear CT
  replace k1 := k1.step hy; (try clear k1_0 k1_f0 k1_1 k1_f1 k1_2 k1_f2); have k1_0 := k1.cell 0; have k1_f0 := k1.frozen 0; have k1_1 := k1.cell 1; have k1_f1 := k1.frozen 1; have k1_2 := k1.cell 2; have k1_f2 := k1.frozen 2; simp only [List.set_cons_zero, List.set_cons_succ, List.getElem?_cons_zero, List.getElem?_cons_succ] at k1_0 k1_1 k1_2; (try clear lt_k1); have lt_k1 := k1.lt; replace k8 := k8.step hy; (try clear k8_0 k8_f0 k8_1 k8_f1 k8_2 k8_f2); have k8_0 := k8.cell 0; have k8_f0 := k8.frozen 0; have k8_1 := k8.cell 1; have k8_f1 := k8.frozen 1; have k8_2 := k8.cell 2; have k8_f2 := k8.frozen 2; simp only [List.set_cons_zero, List.set_cons_succ, List.getElem?_cons_zero, List.getElem?_cons_succ] at k8_0 k8_1 k8_2; (try clear lt_k8); have lt_k8 := k8.lt; replace k9 := k9.step hy; (try clear k9_0 k9_f0 k9_1 k9_f1 k9_2 k9_f2); have k9_0 := k9.cell 0; have k9_f0 := k9.frozen 0; have k9_1 := k9.cell 1; have k9_f1 := k9.frozen 1; have k9_2 := k9.cell 2; have k9_f2 := k9.frozen 2; simp only [List.set_cons_zero, List.set_cons_succ, List.getElem?_cons_zero, List.getElem?_cons_succ] at k9_0 k9_1 k9_2; (try clear lt_k9); have lt_k9 := k9.lt; replace k11 := k11.step hy; (try clear k11_0 k11_f0 k11_1 k11_f1 k11_2 k11_f2); have k11_0 := k11.cell 0; have k11_f0 := k11.frozen 0; have k11_1 := k11.cell 1; have k11_f1 := k11.frozen 1; have k11_2 := k11.cell 2; have k11_f2 := k11.frozen 2; simp only [List.set_cons_zero, List.set_cons_succ, List.getElem?_cons_zero, List.getElem?_cons_succ] at k11_0 k11_1 k11_2; (try clear lt_k11); have lt_k11 := k11.lt
  replace n3 := n3.step hy
  replace n5 := n5.step hy
  replace n6 := n6.step hy
  replace n7 := n7.step hy
  replace hb := hb.step hy
  clear hy
  go_wp2_with fail
  have CT := chain_Check_at _ aSD _ (by decide) (by decide) (by decide) n7.at_
  rw [aw_C1] at CT
  refine CT.mono ?_; rintro e w34 ⟨rfl, hy⟩
  clear CT
  replace k1 := k1.step hy; (try clear k1_0 k1_f0 k1_1 k1_f1 k1_2 k1_f2); have k1_0 := k1.cell 0; have k1_f0 := k1.frozen 0; have k1_1 := k1.cell 1; have k1_f1 := k1.frozen 1; have k1_2 := k1.cell 2; have k1_f2 := k1.frozen 2; simp only [List.set_cons_zero, List.set_cons_succ, List.getElem?_cons_zero, List.getElem?_cons_succ] at k1_0 k1_1 k1_2; (try clear lt_k1); have lt_k1 := k1.lt; replace k8 := k8.step hy; (try clear k8_0 k8_f0 k8_1 k8_f1 k8_2 k8_f2); have k8_0 := k8.cell 0; have k8_f0 := k8.frozen 0; have k8_1 := k8.cell 1; have k8_f1 := k8.frozen 1; have k8_2 := k8.cell 2; have k8_f2 := k8.frozen 2; simp only [List.set_cons_zero, List.set_cons_succ, List.getElem?_cons_zero, List.getElem?_cons_succ] at k8_0 k8_1 k8_2; (try clear lt_k8); have lt_k8 := k8.lt; replace k9 := k9.step hy; (try clear k9_0 k9_f0 k9_1 k9_f1 k9_2 k9_f2); have k9_0 := k9.cell 0; have k9_f0 := k9.frozen 0; have k9_1 := k9.cell 1; have k9_f1 := k9.frozen 1; have k9_2 := k9.cell 2; have k9_f2 := k9.frozen 2; simp only [List.set_cons_zero, List.set_cons_succ, List.getElem?_cons_zero, List.getElem?_cons_succ] at k9_0 k9_1 k9_2; (try clear lt_k9); have lt_k9 := k9.lt; replace k11 := k11.step hy; (try clear k11_0 k11_f0 k11_1 k11_f1 k11_2 k11_f2); have k11_0 := k11.cell 0; have k11_f0 := k11.frozen 0; have k11_1 := k11.cell 1; have k11_f1 := k11.frozen 1; have k11_2 := k11.cell 2; have k11_f2 := k11.frozen 2; simp only [List.set_cons_zero, List.set_cons_succ, List.getElem?_cons_zero, List.getElem?_cons_succ] at k11_0 k11_1 k11_2; (try clear lt_k11); have lt_k11 := k11.lt
  replace n3 := n3.step hy
  replace n5 := n5.step hy
  replace n6 := n6.step hy
  replace n7 := n7.step hy
  replace hb := hb.step hy
  clear hy
  go_wp2_with fail
  refine (chain_Check_nil _).mono ?_; rintro e w35 ⟨rfl, hy⟩
  replace k1 := k1.step hy; (try clear k1_0 k1_f0 k1_1 k1_f1 k1_2 k1_f2); have k1_0 := k1.cell 0; have k1_f0 := k1.frozen 0; have k1_1 := k1.cell 1; have k1_f1 := k1.frozen 1; have k1_2 := k1.cell 2; have k1_f2 := k1.frozen 2; simp only [List.set_cons_zero, List.set_cons_succ, List.getElem?_cons_zero, List.getElem?_cons_succ] at k1_0 k1_1 k1_2; (try clear lt_k1); have lt_k1 := k1.lt; replace k8 := k8.step hy; (try clear k8_0 k8_f0 k8_1 k8_f1 k8_2 k8_f2); have k8_0 := k8.cell 0; have k8_f0 := k8.frozen 0; have k8_1 := k8.cell 1; have k8_f1 := k8.frozen 1; have k8_2 := k8.cell 2; have k8_f2 := k8.frozen 2; simp only [List.set_cons_zero, List.set_cons_succ, List.getElem?_cons_zero, List.getElem?_cons_succ] at k8_0 k8_1 k8_2; (try clear lt_k8); have lt_k8 := k8.lt; replace k9 := k9.step hy; (try clear k9_0 k9_f0 k9_1 k9_f1 k9_2 k9_f2); have k9_0 := k9.cell 0; have k9_f0 := k9.frozen 0; have k9_1 := k9.cell 1; have k9_f1 := k9.frozen 1; have k9_2 := k9.cell 2; have k9_f2 := k9.frozen 2; simp only [List.set_cons_zero, List.set_cons_succ, List.getElem?_cons_zero, List.getElem?_cons_succ] at k9_0 k9_1 k9_2; (try clear lt_k9); have lt_k9 := k9.lt; replace k11 := k11.step hy; (try clear k11_0 k11_f0 k11_1 k11_f1 k11_2 k11_f2); have k11_0 := k11.cell 0; have k11_f0 := k11.frozen 0; have k11_1 := k11.cell 1; have k11_f1 := k11.frozen 1; have k11_2 := k11.cell 2; have k11_f2 := k11.frozen 2; simp only [List.set_cons_zero, List.set_cons_succ, List.getElem?_cons_zero, List.getElem?_cons_succ] at k11_0 k11_1 k11_2; (try clear lt_k11); have lt_k11 := k11.lt
  replace n3 := n3.step hy
  replace n5 := n5.step hy
  replace n6 := n6.step hy
  replace n7 := n7.step hy
  replace hb := hb.step hy
  clear hy
  go_wp2_with fail
  have CT := chain_Same_at _ _ aSC aSD _ (by decide) (by decide) (by decide) n6.at_ n7.at_
  rw [aw_E1] at CT
  refine CT.mono ?_; rintro e w36 ⟨rfl, hy⟩
  clear CT
  replace k1 := k1.step hy; (try clear k1_0 k1_f0 k1_1 k1_f1 k1_2 k1_f2); have k1_0 := k1.cell 0; have k1_f0 := k1.frozen 0; have k1_1 := k1.cell 1; have k1_f1 := k1.frozen 1; have k1_2 := k1.cell 2; have k1_f2 := k1.frozen 2; simp only [List.set_cons_zero, List.set_cons_succ, List.getElem?_cons_zero, List.getElem?_cons_succ] at k1_0 k1_1 k1_2; (try clear lt_k1); have lt_k1 := k1.lt; replace k8 := k8.step hy; (try clear k8_0 k8_f0 k8_1 k8_f1 k8_2 k8_f2); have k8_0 := k8.cell 0; have k8_f0 := k8.frozen 0; have k8_1 := k8.cell 1; have k8_f1 := k8.frozen 1; have k8_2 := k8.cell 2; have k8_f2 := k8.frozen 2; simp only [List.set_cons_zero, List.set_cons_succ, List.getElem?_cons_zero, List.getElem?_cons_succ] at k8_0 k8_1 k8_2; (try clear lt_k8); have lt_k8 := k8.lt; replace k9 := k9.step hy; (try clear k9_0 k9_f0 k9_1 k9_f1 k9_2 k9_f2); have k9_0 := k9.cell 0; have k9_f0 := k9.frozen 0; have k9_1 := k9.cell 1; have k9_f1 := k9.frozen 1; have k9_2 := k9.cell 2; have k9_f2 := k9.frozen 2; simp only [List.set_cons_zero, List.set_cons_succ, List.getElem?_cons_zero, List.getElem?_cons_succ] at k9_0 k9_1 k9_2; (try clear lt_k9); have lt_k9 := k9.lt; replace k11 := k11.step hy; (try clear k11_0 k11_f0 k11_1 k11_f1 k11_2 k11_f2); have k11_0 := k11.cell 0; have k11_f0 := k11.frozen 0; have k11_1 := k11.cell 1; have k11_f1 := k11.frozen 1; have k11_2 := k11.cell 2; have k11_f2 := k11.frozen 2; simp only [List.set_cons_zero, List.set_cons_succ, List.getElem?_cons_zero, List.getElem?_cons_succ] at k11_0 k11_1 k11_2; (try clear lt_k11); have lt_k11 := k11.lt
  replace n3 := n3.step hy
  replace n5 := n5.step hy
  replace n6 := n6.step hy
  replace n7 := n7.step hy
  replace hb := hb.step hy
  clear hy
  go_wp2_with fail
  have CT := chain_Same_at _ _ aSD aSD _ (by decide) (by decide) (by decide) n7.at_ n7.at_
  rw [aw_E2] at CT
  refine CT.mono ?_; rintro e w37 ⟨rfl, hy⟩
  clear CT
  replace k1 := k1.step hy; (try clear k1_0 k1_f0 k1_1 k1_f1 k1_2 k1_f2); have k1_0 := k1.cell 0; have k1_f0 := k1.frozen 0; have k1_1 := k1.cell 1; have k1_f1 := k1.frozen 1; have k1_2 := k1.cell 2; have k1_f2 := k1.frozen 2; simp only [List.set_cons_zero, List.set_cons_succ, List.getElem?_cons_zero, List.getElem?_cons_succ] at k1_0 k1_1 k1_2; (try clear lt_k1); have lt_k1 := k1.lt; replace k8 := k8.step hy; (try clear k8_0 k8_f0 k8_1 k8_f1 k8_2 k8_f2); have k8_0 := k8.cell 0; have k8_f0 := k8.frozen 0; have k8_1 := k8.cell 1; have k8_f1 := k8.frozen 1; have k8_2 := k8.cell 2; have k8_f2 := k8.frozen 2; simp only [List.set_cons_zero, List.set_cons_succ, List.getElem?_cons_zero, List.getElem?_cons_succ] at k8_0 k8_1 k8_2; (try clear lt_k8); have lt_k8 := k8.lt; replace k9 := k9.step hy; (try clear k9_0 k9_f0 k9_1 k9_f1 k9_2 k9_f2); have k9_0 := k9.cell 0; have k9_f0 := k9.frozen 0; have k9_1 := k9.cell 1; have k9_f1 := k9.frozen 1; have k9_2 := k9.cell 2; have k9_f2 := k9.frozen 2; simp only [List.set_cons_zero, List.set_cons_succ, List.getElem?_cons_zero, List.getElem?_cons_succ] at k9_0 k9_1 k9_2; (try clear lt_k9); have lt_k9 := k9.lt; replace k11 := k11.step hy; (try clear k11_0 k11_f0 k11_1 k11_f1 k11_2 k11_f2); have k11_0 := k11.cell 0; have k11_f0 := k11.frozen 0; have k11_1 := k11.cell 1; have k11_f1 := k11.frozen 1; have k11_2 := k11.cell 2; have k11_f2 := k11.frozen 2; simp only [List.set_cons_zero, List.set_cons_succ, List.getElem?_cons_zero, List.getElem?_cons_succ] at k11_0 k11_1 k11_2; (try clear lt_k11); have lt_k11 := k11.lt
  replace n3 := n3.step hy
  replace n5 := n5.step hy
  replace n6 := n6.step hy
  replace n7 := n7.step hy
  replace hb := hb.step hy
  clear hy
  go_wp2
  go_ret
  exact ⟨rfl, hb⟩
end Go.Proofs.Ythicpjfdljgfpaa
