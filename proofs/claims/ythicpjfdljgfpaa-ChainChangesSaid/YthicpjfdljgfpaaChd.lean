/- Package chain: linked. -/
import Derived.Test.YthicpjfdljgfpaaChc
import Derived.Deep.DeepCutAuto
namespace Go.Proofs.Ythicpjfdljgfpaa
open Go.RowKit Go.Sort
set_option linter.unusedSimpArgs false
set_option linter.unusedVariables false

theorem odd_enters : ∀ args w, (callFunc 59 args).run Try.prog w = .ok (.enter 59 args) w := enters_of Try.func59 (by kernel_rfl) rfl
theorem wrong_enters : ∀ args w, (callFunc 61 args).run Try.prog w = .ok (.enter 61 args) w := enters_of Try.func61 (by kernel_rfl) rfl
def cWrong (n h : Nat) (x : Nd) : Bool := !cIn x.l (-1) ((h : Int) - 1) || !cIn x.n (-1) ((n : Int) - 1) || !cIn x.p (-1) ((n : Int) - 1)
set_option maxRecDepth 100000 in
set_option maxHeartbeats 4000000 in
theorem chain_wrong_any (x : Nd) (A B C : Option Addr) (a b c n h t g g2 : Nat) (w : World) (hh : n ≤ maxLen) (hh2 : h ≤ maxLen) (k : Bk w g 30 (csC A B C a b c n h t)) (k2 : Bk w g2 66 [.func (.func 59) #[] #[.pointer (some ⟨g, 0, none⟩)]]) :
    Calls Try.prog 61 (#[ndV x] ++ #[.pointer (some ⟨g, 0, none⟩), .pointer (some ⟨g2, 0, none⟩)]) w fun e w' => e = .returned (.bool (cWrong n h x)) ∧ Below w.heap.size w w' := by
  show Calls Try.prog 61 #[ndV x, .pointer (some ⟨g, 0, none⟩), .pointer (some ⟨g2, 0, none⟩)] w _
  have hI := fun W => chain_in_any x.l (-1) ((h : Int) - 1) W
  have hO1 := fun W k => chain_odd_any x.n A B C a b c n h t g W hh k
  have hO2 := fun W k => chain_odd_any x.p A B C a b c n h t g W hh k
  have eg := odd_enters
  have HR := hide (show cWrong n h x = (!cIn x.l (-1) ((h : Int) - 1) || !cIn x.n (-1) ((n : Int) - 1) || !cIn x.p (-1) ((n : Int) - 1)) from rfl)
  unfold maxLen at hh hh2
  generalize cIn x.l (-1) ((h : Int) - 1) = v1 at *
  generalize cIn x.n (-1) ((n : Int) - 1) = v2 at *
  generalize cIn x.p (-1) ((n : Int) - 1) = v3 at *
  generalize cWrong n h x = R at *
  have lk := k.lt
  have lk2 := k2.lt
  go_enter Try.func61, Try.ntmps61
  go_upto_region 1 with fail
  generalize hV : World.alloc w _ = w1
  have hb : Below w.heap.size w w1 := by subst hV; (repeat (first | with_reducible exact Below.refl _ _ | with_reducible assumption | with_reducible refine Below.drew ?_ | with_reducible refine Below.drewN ?_ _ | with_reducible refine Below.alloc1 ?_ _ | with_reducible refine Below.setCell1 ?_ (by first | omega | (simp; done) | (simp; omega)) _ | with_reducible refine Below.step ?_ (by with_reducible assumption)))
  have kx : Bk w1 w.heap.size 63 (ndC x) := by subst hV; (repeat (first | with_reducible exact Bk.new' _ _ _ _ (by simp; done) | with_reducible assumption | with_reducible refine Bk.alloc ?_ _ | with_reducible refine Bk.drew ?_ | with_reducible refine Bk.drewN ?_ _ | with_reducible refine Bk.step ?_ (by with_reducible assumption) | with_reducible refine Bk.far ?_ (by first | omega | (simp; done) | (simp; omega)) _))
  clear hV
  replace k := k.step hb; replace k2 := k2.step hb
  have k_0 := k.cell 0; have k_f0 := k.frozen 0; have k_1 := k.cell 1; have k_f1 := k.frozen 1; have k_2 := k.cell 2; have k_f2 := k.frozen 2; simp only [List.set_cons_zero, List.set_cons_succ, List.getElem?_cons_zero, List.getElem?_cons_succ] at k_0 k_1 k_2; have lt_k := k.lt; have k2_0 := k2.cell 0; have k2_f0 := k2.frozen 0; simp only [List.set_cons_zero, List.set_cons_succ, List.getElem?_cons_zero, List.getElem?_cons_succ] at k2_0; have lt_k2 := k2.lt; have kx_0 := kx.cell 0; have kx_f0 := kx.frozen 0; have kx_1 := kx.cell 1; have kx_f1 := kx.frozen 1; have kx_2 := kx.cell 2; have kx_f2 := kx.frozen 2; simp only [List.set_cons_zero, List.set_cons_succ, List.getElem?_cons_zero, List.getElem?_cons_succ] at kx_0 kx_1 kx_2; have lt_kx := kx.lt
  go_wp2_with fail
  refine (hI _).mono ?_; rintro e w2 ⟨rfl, rfl⟩
  cases v1
  · have hR := HR.out
    simp only [Bool.not_false, Bool.true_or] at hR
    subst hR
    go_wp2
    go_ret
    exact ⟨rfl, hb⟩
  · go_wp2_with fail
    refine (hO1 _ k).mono ?_; rintro e w3 ⟨rfl, hx⟩
    replace k := k.step hx; (try clear k_0 k_f0 k_1 k_f1 k_2 k_f2); have k_0 := k.cell 0; have k_f0 := k.frozen 0; have k_1 := k.cell 1; have k_f1 := k.frozen 1; have k_2 := k.cell 2; have k_f2 := k.frozen 2; simp only [List.set_cons_zero, List.set_cons_succ, List.getElem?_cons_zero, List.getElem?_cons_succ] at k_0 k_1 k_2; (try clear lt_k); have lt_k := k.lt; replace k2 := k2.step hx; (try clear k2_0 k2_f0); have k2_0 := k2.cell 0; have k2_f0 := k2.frozen 0; simp only [List.set_cons_zero, List.set_cons_succ, List.getElem?_cons_zero, List.getElem?_cons_succ] at k2_0; (try clear lt_k2); have lt_k2 := k2.lt; replace kx := kx.step hx; (try clear kx_0 kx_f0 kx_1 kx_f1 kx_2 kx_f2); have kx_0 := kx.cell 0; have kx_f0 := kx.frozen 0; have kx_1 := kx.cell 1; have kx_f1 := kx.frozen 1; have kx_2 := kx.cell 2; have kx_f2 := kx.frozen 2; simp only [List.set_cons_zero, List.set_cons_succ, List.getElem?_cons_zero, List.getElem?_cons_succ] at kx_0 kx_1 kx_2; (try clear lt_kx); have lt_kx := kx.lt
    replace hb := hb.step hx
    clear hx hO1
    cases v2
    · have hR := HR.out
      simp only [Bool.not_false, Bool.not_true, Bool.false_or, Bool.true_or] at hR
      subst hR
      go_wp2
      go_ret
      exact ⟨rfl, hb⟩
    · go_wp2_with fail
      refine (hO2 _ k).mono ?_; rintro e w4 ⟨rfl, hx⟩
      replace hb := hb.step hx
      have hR := HR.out
      simp only [Bool.not_true, Bool.false_or] at hR
      subst hR
      go_wp2
      go_ret
      exact ⟨rfl, hb⟩
end Go.Proofs.Ythicpjfdljgfpaa
