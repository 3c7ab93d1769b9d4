/- Package chain: linked. -/
import Derived.Test.YthicpjfdljgfpaaChd
import Derived.Great.BuildSlice
import Derived.Test.YthicpjfdljgfpaaKeep
namespace Go.Proofs.Ythicpjfdljgfpaa
open Go.RowKit Go.Sort
set_option linter.unusedSimpArgs false
set_option linter.unusedVariables false

theorem cLinks_any (st : Ch) : cLinks st = (!st.ns.any (cWrong st.ns.length st.hs.length) && !st.hs.any (fun x => !cIn x (-1) ((st.ns.length : Int) - 1)) && !st.ts.any (fun x => !cIn x (-1) ((st.ns.length : Int) - 1))) := by
  unfold cLinks
  simp only [List.not_any_eq_all_not, Bool.not_not]
  congr 2
  apply congrArg
  funext x
  simp [cWrong, Bool.not_or]
set_option maxRecDepth 100000 in
set_option maxHeartbeats 4000000 in
theorem chain_linked_any (A B C : Option Addr) (a b c : Nat) (st : Ch) (w : World) (h1 : st.ns.length ≤ 1000) (h2 : st.hs.length ≤ 1000) (h3 : st.ts.length ≤ 1000) (rA : Rd w w.heap.size A (nds st.ns)) (rB : Rd w w.heap.size B (ints st.hs)) (rC : Rd w w.heap.size C (ints st.ts)) :
    Calls Try.prog 46 #[csV A B C a b c st.ns.length st.hs.length st.ts.length] w fun e w' => e = .returned (.bool (cLinks st)) ∧ Below w.heap.size w w' := by
  have HR := hide (cLinks_any st)
  have hN := fun (W : World) g g2 (k : Bk W g 30 (csC A B C a b c st.ns.length st.hs.length st.ts.length)) (k2 : Bk W g2 66 [.func (.func 59) #[] #[.pointer (some ⟨g, 0, none⟩)]]) (r : Rd W W.heap.size A (nds st.ns)) =>
    nodes_ContainsFunc 61 #[.pointer (some ⟨g, 0, none⟩), .pointer (some ⟨g2, 0, none⟩)] (cWrong st.ns.length st.hs.length) W wrong_enters (fun x V hb => chain_wrong_any x A B C a b c st.ns.length st.hs.length st.ts.length g g2 V (by unfold maxLen; omega) (by unfold maxLen; omega) (k.step hb) (k2.step hb)) A a st.ns (by unfold maxLen; omega) r
  have hI := fun (W : World) g (D : Option Addr) (d : Nat) (l : List Int) (hl : l.length ≤ 1000) (k : Bk W g 30 (csC A B C a b c st.ns.length st.hs.length st.ts.length)) (r : Rd W W.heap.size D (ints l)) =>
    ints_ContainsFunc 59 #[.pointer (some ⟨g, 0, none⟩)] (fun x => !cIn x (-1) ((st.ns.length : Int) - 1)) W odd_enters (fun x V hb => chain_odd_any x A B C a b c st.ns.length st.hs.length st.ts.length g V (by unfold maxLen; omega) (k.step hb)) D d l (by unfold maxLen; omega) r
  generalize cLinks st = R at *
  generalize st.ns.any (cWrong st.ns.length st.hs.length) = v1 at *
  go_enter Try.func46, Try.ntmps46
  have kz : Bk ((w.alloc (.cells (csC A B C a b c st.ns.length st.hs.length st.ts.length).toArray 30)).alloc (.cells ([.nilFunc] : List Value).toArray 66)) (w.heap.size + 1) 66 [.nilFunc] := Bk.new' (World.alloc w _) 66 [.nilFunc] _ (by simp)
  go_upto_region 3 with (refine wpList_store_one rfl 66 _ _ rfl _ rfl rfl _ _ kz (by kernel_rfl) ?_)
  have k2 := kz.row [.func (.func 59) #[] #[.pointer (some ⟨w.heap.size, 0, none⟩)]]
  have k := (((Bk.new w 30 (csC A B C a b c st.ns.length st.hs.length st.ts.length)).alloc (.cells ([.nilFunc] : List Value).toArray 66))).rowFar (g := w.heap.size + 1) (by omega) ([.func (.func 59) #[] #[.pointer (some ⟨w.heap.size, 0, none⟩)]] : List Value).toArray
  have hb := setRow_below (((Below.refl w.heap.size w).alloc1 (.cells (csC A B C a b c st.ns.length st.hs.length st.ts.length).toArray 30)).alloc1 (.cells ([.nilFunc] : List Value).toArray 66)) (g := w.heap.size + 1) (by omega) ([.func (.func 59) #[] #[.pointer (some ⟨w.heap.size, 0, none⟩)]] : List Value).toArray
  generalize hV : World.setRow _ _ _ = w1 at k k2 hb ⊢
  clear hV kz
  replace rA := rA.step hb; replace rB := rB.step hb; replace rC := rC.step hb
  have k_0 := k.cell 0; have k_f0 := k.frozen 0; have k_1 := k.cell 1; have k_f1 := k.frozen 1; have k_2 := k.cell 2; have k_f2 := k.frozen 2; simp only [List.set_cons_zero, List.set_cons_succ, List.getElem?_cons_zero, List.getElem?_cons_succ] at k_0 k_1 k_2; have lt_k := k.lt; have k2_0 := k2.cell 0; have k2_f0 := k2.frozen 0; simp only [List.set_cons_zero, List.set_cons_succ, List.getElem?_cons_zero, List.getElem?_cons_succ] at k2_0; have lt_k2 := k2.lt
  go_wp2_with fail
  refine (hN _ _ _ k k2 rA).mono ?_; rintro e w2 ⟨rfl, hx⟩
  replace k := k.step hx; (try clear k_0 k_f0 k_1 k_f1 k_2 k_f2); have k_0 := k.cell 0; have k_f0 := k.frozen 0; have k_1 := k.cell 1; have k_f1 := k.frozen 1; have k_2 := k.cell 2; have k_f2 := k.frozen 2; simp only [List.set_cons_zero, List.set_cons_succ, List.getElem?_cons_zero, List.getElem?_cons_succ] at k_0 k_1 k_2; (try clear lt_k); have lt_k := k.lt; replace k2 := k2.step hx; (try clear k2_0 k2_f0); have k2_0 := k2.cell 0; have k2_f0 := k2.frozen 0; simp only [List.set_cons_zero, List.set_cons_succ, List.getElem?_cons_zero, List.getElem?_cons_succ] at k2_0; (try clear lt_k2); have lt_k2 := k2.lt
  replace rB := rB.step hx; replace rC := rC.step hx
  replace hb := hb.step hx
  clear hx hN rA
  cases v1
  · go_wp2_with fail
    refine (hI _ _ B b st.hs h2 k rB).mono ?_; rintro e w3 ⟨rfl, hx⟩
    replace k := k.step hx; (try clear k_0 k_f0 k_1 k_f1 k_2 k_f2); have k_0 := k.cell 0; have k_f0 := k.frozen 0; have k_1 := k.cell 1; have k_f1 := k.frozen 1; have k_2 := k.cell 2; have k_f2 := k.frozen 2; simp only [List.set_cons_zero, List.set_cons_succ, List.getElem?_cons_zero, List.getElem?_cons_succ] at k_0 k_1 k_2; (try clear lt_k); have lt_k := k.lt; replace k2 := k2.step hx; (try clear k2_0 k2_f0); have k2_0 := k2.cell 0; have k2_f0 := k2.frozen 0; simp only [List.set_cons_zero, List.set_cons_succ, List.getElem?_cons_zero, List.getElem?_cons_succ] at k2_0; (try clear lt_k2); have lt_k2 := k2.lt
    replace rC := rC.step hx
    replace hb := hb.step hx
    clear hx rB
    generalize st.hs.any (fun x => !cIn x (-1) ((st.ns.length : Int) - 1)) = v2 at *
    cases v2
    · go_wp2_with fail
      refine (hI _ _ C c st.ts h3 k rC).mono ?_; rintro e w4 ⟨rfl, hx⟩
      replace hb := hb.step hx
      have hR := HR.out
      simp only [Bool.not_false, Bool.true_and] at hR
      subst hR
      go_wp2
      go_ret
      exact ⟨rfl, hb⟩
    · have hR := HR.out
      simp only [Bool.not_false, Bool.not_true, Bool.true_and, Bool.false_and, Bool.and_false] at hR
      subst hR
      go_wp2
      go_ret
      exact ⟨rfl, hb⟩
  · have hR := HR.out
    simp only [Bool.not_true, Bool.false_and] at hR
    subst hR
    go_wp2
    go_ret
    exact ⟨rfl, hb⟩
end Go.Proofs.Ythicpjfdljgfpaa
