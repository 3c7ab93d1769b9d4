/- Package chain: Same. -/
import Derived.Test.YthicpjfdljgfpaaChf
namespace Go.Proofs.Ythicpjfdljgfpaa
open Go.RowKit Go.Sort
set_option linter.unusedSimpArgs false
set_option linter.unusedVariables false

def cSame (x y : Ch) : Bool := decide (x.ns = y.ns) && decide (x.hs = y.hs) && decide (x.ts = y.ts)
set_option maxRecDepth 100000 in
set_option maxHeartbeats 4000000 in
theorem chain_Same_any (A B C A' B' C' : Option Addr) (a b c a' b' c' : Nat) (x y : Ch) (w : World) (h1 : x.ns.length ≤ 1000) (h2 : x.hs.length ≤ 1000) (h3 : x.ts.length ≤ 1000) (rA : Rd w w.heap.size A (nds x.ns)) (rB : Rd w w.heap.size B (ints x.hs)) (rC : Rd w w.heap.size C (ints x.ts))
    (rA' : Rd w w.heap.size A' (nds y.ns)) (rB' : Rd w w.heap.size B' (ints y.hs)) (rC' : Rd w w.heap.size C' (ints y.ts)) :
    Calls Try.prog 33 #[csV A B C a b c x.ns.length x.hs.length x.ts.length, csV A' B' C' a' b' c' y.ns.length y.hs.length y.ts.length] w fun e w' => e = .returned (.bool (cSame x y)) ∧ Below w.heap.size w w' := by
  have hN := fun (W : World) r r' => nodes_Equal A A' a a' x.ns y.ns W (by unfold maxLen; omega) r r'
  have hH := fun (W : World) r r' => ints_Equal B B' b b' x.hs y.hs W (by unfold maxLen; omega) r r'
  have hT := fun (W : World) r r' => ints_Equal C C' c c' x.ts y.ts W (by unfold maxLen; omega) r r'
  have HR := hide (show cSame x y = (decide (x.ns = y.ns) && decide (x.hs = y.hs) && decide (x.ts = y.ts)) from rfl)
  generalize decide (x.ns = y.ns) = v1 at *
  generalize decide (x.hs = y.hs) = v2 at *
  generalize decide (x.ts = y.ts) = v3 at *
  generalize cSame x y = R at *
  go_enter Try.func33, Try.ntmps33
  go_upto_region 1 with fail
  generalize hV : World.alloc (World.alloc w _) _ = w1
  have hb : Below w.heap.size w w1 := by subst hV; (repeat (first | with_reducible exact Below.refl _ _ | with_reducible assumption | with_reducible refine Below.drew ?_ | with_reducible refine Below.drewN ?_ _ | with_reducible refine Below.alloc1 ?_ _ | with_reducible refine Below.setCell1 ?_ (by first | omega | (simp; done) | (simp; omega)) _ | with_reducible refine Below.step ?_ (by with_reducible assumption)))
  have k : Bk w1 w.heap.size 30 (csC A B C a b c x.ns.length x.hs.length x.ts.length) := by subst hV; exact (Bk.new' w 30 (csC A B C a b c x.ns.length x.hs.length x.ts.length) _ rfl).alloc _
  have k2 : Bk w1 (w.heap.size + 1) 30 (csC A' B' C' a' b' c' y.ns.length y.hs.length y.ts.length) := by subst hV; exact Bk.new' (World.alloc w _) 30 (csC A' B' C' a' b' c' y.ns.length y.hs.length y.ts.length) _ (by simp)
  clear hV
  replace rA := rA.step hb; replace rB := rB.step hb; replace rC := rC.step hb; replace rA' := rA'.step hb; replace rB' := rB'.step hb; replace rC' := rC'.step hb
  have k_0 := k.cell 0; have k_f0 := k.frozen 0; have k_1 := k.cell 1; have k_f1 := k.frozen 1; have k_2 := k.cell 2; have k_f2 := k.frozen 2; simp only [List.set_cons_zero, List.set_cons_succ, List.getElem?_cons_zero, List.getElem?_cons_succ] at k_0 k_1 k_2; have lt_k := k.lt; have k2_0 := k2.cell 0; have k2_f0 := k2.frozen 0; have k2_1 := k2.cell 1; have k2_f1 := k2.frozen 1; have k2_2 := k2.cell 2; have k2_f2 := k2.frozen 2; simp only [List.set_cons_zero, List.set_cons_succ, List.getElem?_cons_zero, List.getElem?_cons_succ] at k2_0 k2_1 k2_2; have lt_k2 := k2.lt
  go_wp2_with fail
  refine (hN _ rA rA').mono ?_; rintro e w2 ⟨rfl, hq⟩
  have hx := qt_below hq
  clear hq
  replace k := k.step hx; (try clear k_0 k_f0 k_1 k_f1 k_2 k_f2); have k_0 := k.cell 0; have k_f0 := k.frozen 0; have k_1 := k.cell 1; have k_f1 := k.frozen 1; have k_2 := k.cell 2; have k_f2 := k.frozen 2; simp only [List.set_cons_zero, List.set_cons_succ, List.getElem?_cons_zero, List.getElem?_cons_succ] at k_0 k_1 k_2; (try clear lt_k); have lt_k := k.lt; replace k2 := k2.step hx; (try clear k2_0 k2_f0 k2_1 k2_f1 k2_2 k2_f2); have k2_0 := k2.cell 0; have k2_f0 := k2.frozen 0; have k2_1 := k2.cell 1; have k2_f1 := k2.frozen 1; have k2_2 := k2.cell 2; have k2_f2 := k2.frozen 2; simp only [List.set_cons_zero, List.set_cons_succ, List.getElem?_cons_zero, List.getElem?_cons_succ] at k2_0 k2_1 k2_2; (try clear lt_k2); have lt_k2 := k2.lt
  replace rB := rB.step hx; replace rC := rC.step hx; replace rB' := rB'.step hx; replace rC' := rC'.step hx
  replace hb := hb.step hx
  clear hx hN rA rA'
  cases v1
  · have hR := HR.out
    simp only [Bool.false_and] at hR
    subst hR
    go_wp2
    go_ret
    exact ⟨rfl, hb⟩
  · go_wp2_with fail
    refine (hH _ rB rB').mono ?_; rintro e w3 ⟨rfl, hq⟩
    have hx := qt_below hq
    clear hq
    replace k := k.step hx; (try clear k_0 k_f0 k_1 k_f1 k_2 k_f2); have k_0 := k.cell 0; have k_f0 := k.frozen 0; have k_1 := k.cell 1; have k_f1 := k.frozen 1; have k_2 := k.cell 2; have k_f2 := k.frozen 2; simp only [List.set_cons_zero, List.set_cons_succ, List.getElem?_cons_zero, List.getElem?_cons_succ] at k_0 k_1 k_2; (try clear lt_k); have lt_k := k.lt; replace k2 := k2.step hx; (try clear k2_0 k2_f0 k2_1 k2_f1 k2_2 k2_f2); have k2_0 := k2.cell 0; have k2_f0 := k2.frozen 0; have k2_1 := k2.cell 1; have k2_f1 := k2.frozen 1; have k2_2 := k2.cell 2; have k2_f2 := k2.frozen 2; simp only [List.set_cons_zero, List.set_cons_succ, List.getElem?_cons_zero, List.getElem?_cons_succ] at k2_0 k2_1 k2_2; (try clear lt_k2); have lt_k2 := k2.lt
    replace rC := rC.step hx; replace rC' := rC'.step hx
    replace hb := hb.step hx
    clear hx hH rB rB'
    cases v2
    · have hR := HR.out
      simp only [Bool.true_and, Bool.false_and] at hR
      subst hR
      go_wp2
      go_ret
      exact ⟨rfl, hb⟩
    · go_wp2_with fail
      refine (hT _ rC rC').mono ?_; rintro e w4 ⟨rfl, hq⟩
      have hR := HR.out
      simp only [Bool.true_and] at hR
      subst hR
      go_wp2
      go_ret
      exact ⟨rfl, hb.step (qt_below hq)⟩
end Go.Proofs.Ythicpjfdljgfpaa
