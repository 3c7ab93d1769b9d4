/- Package chain: Len, Front. -/
import Derived.Test.YthicpjfdljgfpaaChm
namespace Go.Proofs.Ythicpjfdljgfpaa
open Go.RowKit Go.Sort
set_option linter.unusedSimpArgs false
set_option linter.unusedVariables false

set_option maxRecDepth 100000 in
set_option maxHeartbeats 8000000 in
theorem chain_Len_any (A B C : Option Addr) (a b c : Nat) (st : Ch) (list : Int) (w : World) (h1 : st.ns.length ≤ 1000) (h2 : st.hs.length ≤ 1000) (h3 : st.ts.length ≤ 1000) (rA : Rd w w.heap.size A (nds st.ns)) (rB : Rd w w.heap.size B (ints st.hs)) (rC : Rd w w.heap.size C (ints st.ts)) :
    Calls Try.prog 31 #[csV A B C a b c st.ns.length st.hs.length st.ts.length, .int .i64 list] w fun e w' => e = .returned (.int .i64 ((cWalkR st list).length : Int)) ∧ Below w.heap.size w w' := by
  have hW := fun (W : World) r r' r'' => chain_Walk_any A B C a b c st list W h1 h2 h3 r r' r''
  generalize cWalkR st list = R at *
  go_enter Try.func31, Try.ntmps31
  go_upto_region 1 with fail
  generalize hV : World.alloc w _ = w1
  have hb : Below w.heap.size w w1 := by subst hV; (repeat (first | with_reducible exact Below.refl _ _ | with_reducible assumption | with_reducible refine Below.drew ?_ | with_reducible refine Below.drewN ?_ _ | with_reducible refine Below.alloc1 ?_ _ | with_reducible refine Below.setCell1 ?_ (by first | omega | (simp; done) | (simp; omega)) _ | with_reducible refine Below.step ?_ (by with_reducible assumption)))
  have k : Bk w1 w.heap.size 30 (csC A B C a b c st.ns.length st.hs.length st.ts.length) := by subst hV; (repeat (first | with_reducible exact Bk.new' _ _ _ _ (by simp; done) | with_reducible assumption | with_reducible refine Bk.alloc ?_ _ | with_reducible refine Bk.drew ?_ | with_reducible refine Bk.drewN ?_ _ | with_reducible refine Bk.step ?_ (by with_reducible assumption) | with_reducible refine Bk.far ?_ (by first | omega | (simp; done) | (simp; omega)) _))
  clear hV
  replace rA := rA.step hb; replace rB := rB.step hb; replace rC := rC.step hb
  have k_0 := k.cell 0; have k_f0 := k.frozen 0; have k_1 := k.cell 1; have k_f1 := k.frozen 1; have k_2 := k.cell 2; have k_f2 := k.frozen 2; simp only [List.set_cons_zero, List.set_cons_succ, List.getElem?_cons_zero, List.getElem?_cons_succ] at k_0 k_1 k_2; have lt_k := k.lt
  go_wp2_with fail
  refine (hW _ rA rB rC).mono ?_; rintro e w2 ⟨O, co, rfl, ow, hx⟩
  go_wp2
  go_ret
  exact ⟨rfl, hb.step hx⟩
def cFront (st : Ch) (list : Int) : Int := if cIn list 0 ((st.hs.length : Int) - 1) = false then -1 else if cCheck st ≠ 0 then -1 else st.hs.getD list.toNat (-1)
set_option maxRecDepth 100000 in
set_option maxHeartbeats 8000000 in
theorem chain_Front_any (A B C : Option Addr) (a b c : Nat) (st : Ch) (list : Int) (w : World) (h1 : st.ns.length ≤ 1000) (h2 : st.hs.length ≤ 1000) (h3 : st.ts.length ≤ 1000) (rA : Rd w w.heap.size A (nds st.ns)) (rB : Rd w w.heap.size B (ints st.hs)) (rC : Rd w w.heap.size C (ints st.ts)) :
    Calls Try.prog 29 #[csV A B C a b c st.ns.length st.hs.length st.ts.length, .int .i64 list] w fun e w' => e = .returned (.int .i64 (cFront st list)) ∧ Below w.heap.size w w' := by
  have hI := fun W => chain_is_any A B C a b c st.ns.length st.hs.length st.ts.length list W (by unfold maxLen; omega)
  have hC := fun (W : World) r r' r'' => chain_Check_any A B C a b c st W h1 h2 h3 r r' r''
  have HR := hide (show cFront st list = if cIn list 0 ((st.hs.length : Int) - 1) = false then -1 else if cCheck st ≠ 0 then -1 else st.hs.getD list.toNat (-1) from rfl)
  generalize cFront st list = R at *
  cases hv : cIn list 0 ((st.hs.length : Int) - 1)
  · have hR : R = -1 := by rw [HR.out, if_pos hv]
    subst hR
    rw [hv] at hI
    clear HR hv hC
    go_enter Try.func29, Try.ntmps29
    go_wp2_with fail
    refine (hI _).mono ?_; rintro e w2 ⟨rfl, hx⟩
    go_wp2
    go_ret
    exact ⟨rfl, by (repeat (first | with_reducible exact Below.refl _ _ | with_reducible assumption | with_reducible refine Below.drew ?_ | with_reducible refine Below.drewN ?_ _ | with_reducible refine Below.alloc1 ?_ _ | with_reducible refine Below.setCell1 ?_ (by first | omega | (simp; done) | (simp; omega)) _ | with_reducible refine Below.step ?_ (by with_reducible assumption)))⟩
  · have hb := cIn_t hv
    obtain ⟨i, rfl⟩ : ∃ i : Nat, list = (i : Int) := ⟨list.toNat, by omega⟩
    have hi : i < st.hs.length := by omega
    have hi2 : (i : Int) < (st.hs.length : Int) := by omega
    have hR0 : R = if cCheck st ≠ 0 then -1 else st.hs[i] := by rw [HR.out, if_neg (by rw [hv]; simp)]; simp [List.getD, hi]
    have HR2 := hide hR0
    rw [hv] at hI
    clear hR0 HR hv hb
    go_enter Try.func29, Try.ntmps29
    go_upto_region 1 with fail
    generalize hV : World.alloc w _ = w1
    have hb : Below w.heap.size w w1 := by subst hV; (repeat (first | with_reducible exact Below.refl _ _ | with_reducible assumption | with_reducible refine Below.drew ?_ | with_reducible refine Below.drewN ?_ _ | with_reducible refine Below.alloc1 ?_ _ | with_reducible refine Below.setCell1 ?_ (by first | omega | (simp; done) | (simp; omega)) _ | with_reducible refine Below.step ?_ (by with_reducible assumption)))
    have k : Bk w1 w.heap.size 30 (csC A B C a b c st.ns.length st.hs.length st.ts.length) := by subst hV; (repeat (first | with_reducible exact Bk.new' _ _ _ _ (by simp; done) | with_reducible assumption | with_reducible refine Bk.alloc ?_ _ | with_reducible refine Bk.drew ?_ | with_reducible refine Bk.drewN ?_ _ | with_reducible refine Bk.step ?_ (by with_reducible assumption) | with_reducible refine Bk.far ?_ (by first | omega | (simp; done) | (simp; omega)) _))
    clear hV
    replace rA := rA.step hb; replace rB := rB.step hb; replace rC := rC.step hb
    have k_0 := k.cell 0; have k_f0 := k.frozen 0; have k_1 := k.cell 1; have k_f1 := k.frozen 1; have k_2 := k.cell 2; have k_f2 := k.frozen 2; simp only [List.set_cons_zero, List.set_cons_succ, List.getElem?_cons_zero, List.getElem?_cons_succ] at k_0 k_1 k_2; have lt_k := k.lt
    go_wp2_with fail
    refine (hI _).mono ?_; rintro e w2 ⟨rfl, hx⟩
    replace k := k.step hx; (try clear k_0 k_f0 k_1 k_f1 k_2 k_f2); have k_0 := k.cell 0; have k_f0 := k.frozen 0; have k_1 := k.cell 1; have k_f1 := k.frozen 1; have k_2 := k.cell 2; have k_f2 := k.frozen 2; simp only [List.set_cons_zero, List.set_cons_succ, List.getElem?_cons_zero, List.getElem?_cons_succ] at k_0 k_1 k_2; (try clear lt_k); have lt_k := k.lt
    replace rA := rA.step hx; replace rB := rB.step hx; replace rC := rC.step hx
    replace hb := hb.step hx
    clear hx hI
    go_wp2_with fail
    refine (hC _ rA rB rC).mono ?_; rintro e w3 ⟨rfl, hx⟩
    replace k := k.step hx; (try clear k_0 k_f0 k_1 k_f1 k_2 k_f2); have k_0 := k.cell 0; have k_f0 := k.frozen 0; have k_1 := k.cell 1; have k_f1 := k.frozen 1; have k_2 := k.cell 2; have k_f2 := k.frozen 2; simp only [List.set_cons_zero, List.set_cons_succ, List.getElem?_cons_zero, List.getElem?_cons_succ] at k_0 k_1 k_2; (try clear lt_k); have lt_k := k.lt
    replace rB := rB.step hx
    replace hb := hb.step hx
    clear hx hC rA rC
    by_cases hc : cCheck st = 0
    · have bc : (cCheck st != 0) = false := by simpa using hc
      have hR : R = st.hs[i] := by rw [HR2.out, if_neg (by simp [hc])]
      have HR3 := hide hR
      obtain ⟨bd, rfl, _, hcb⟩ := rB.at_ (k := i) (by simpa using hi)
      rw [ints_get st.hs i hi] at hcb
      clear hR HR2 hc
      generalize cCheck st = cv at *
      go_wp2
      go_ret
      exact ⟨ret_int HR3.out.symm, hb⟩
    · have bc : (cCheck st != 0) = true := by simpa using hc
      have hR : R = -1 := by rw [HR2.out, if_pos hc]
      subst hR
      clear HR2 hc
      generalize cCheck st = cv at *
      go_wp2
      go_ret
      exact ⟨rfl, hb⟩
end Go.Proofs.Ythicpjfdljgfpaa
