/- Package callboyref04: is, Walk, Len, Front, Back. -/
import Derived.Test.YthicpjfdljgfpaaRef04f
import Derived.Test.YthicpjfdljgfpaaChx
namespace Go.Proofs.Ythicpjfdljgfpaa
open Go.RowKit Go.Sort
set_option linter.unusedSimpArgs false
set_option linter.unusedVariables false

theorem r04_is_any (A B C : Option Addr) (a b c n h t : Nat) (list : Int) (w : World) (hh : h ≤ 1000) :
    Calls Try.prog 38 #[csV A B C a b c n h t, .int .i64 list] w fun e w' => e = .returned (.bool (cIn list 0 ((h : Int) - 1))) ∧ Below w.heap.size w w' := by
  have hI := fun W => r04_in_any list 0 ((h : Int) - 1) W
  have wh : IntKind.i64.wrap ((h : Int) - 1) = (h : Int) - 1 := IntWalk.i64_in _ (by omega)
  go_enter Try.func38, Try.ntmps38
  go_wp2_with fail
  refine (hI _).mono ?_; rintro e w2 ⟨rfl, rfl⟩
  go_wp2
  go_ret
  exact ⟨rfl, by (repeat (first | with_reducible exact Below.refl _ _ | with_reducible assumption | with_reducible refine Below.drew ?_ | with_reducible refine Below.drewN ?_ _ | with_reducible refine Below.alloc1 ?_ _ | with_reducible refine Below.setCell1 ?_ (by first | omega | (simp; done) | (simp; omega)) _ | with_reducible refine Below.step ?_ (by with_reducible assumption)))⟩
/-- the document's Walk -/
theorem walkR_eq (st : Ch) (list : Int) : cWalkR st list = if cCheck st ≠ 0 then [] else if cIn list 0 ((st.hs.length : Int) - 1) = false then [] else cWalk st list.toNat := by
  unfold cWalkR
  by_cases h : cCheck st = 0
  · have h' : ¬ (cCheck st ≠ 0) := by simp [h]
    rw [if_neg h', if_neg h']
  · rw [if_pos h, if_pos h]; split <;> rfl
set_option maxRecDepth 100000 in
set_option maxHeartbeats 8000000 in
theorem r04_Walk_any (A B C : Option Addr) (a b c : Nat) (st : Ch) (list : Int) (w : World) (h1 : st.ns.length ≤ 1000) (h2 : st.hs.length ≤ 1000) (h3 : st.ts.length ≤ 1000) (rA : Rd w w.heap.size A (nds st.ns)) (rB : Rd w w.heap.size B (ints st.hs)) (rC : Rd w w.heap.size C (ints st.ts)) :
    Calls Try.prog 26 #[csV A B C a b c st.ns.length st.hs.length st.ts.length, .int .i64 list] w fun e w' => ∃ O co, e = .returned (.slice O (cWalkR st list).length co) ∧ w'.ownsRow w.heap.size 3 1 (.slice O (cWalkR st list).length co) (cWalkR st list).length (ints (nI (cWalkR st list))) ∧ Below w.heap.size w w' := by
  have hI := fun W => r04_is_any A B C a b c st.ns.length st.hs.length st.ts.length list W h2
  have hC := fun (W : World) r r' r'' => r04_Check_any A B C a b c st W h1 h2 h3 r r' r''
  have HR := hide (walkR_eq st list)
  generalize cWalkR st list = R at *
  by_cases hc : cCheck st = 0
  case neg =>
    have bc : (cCheck st != 0) = true := by simpa using hc
    have hR : R = [] := by rw [HR.out, if_pos hc]
    subst hR
    generalize cCheck st = cv at *
    clear HR hc
    go_enter Try.func26, Try.ntmps26
    go_upto_region 1 with fail
    generalize hV : World.alloc w _ = w1
    have hb : Below w.heap.size w w1 := by subst hV; (repeat (first | with_reducible exact Below.refl _ _ | with_reducible assumption | with_reducible refine Below.drew ?_ | with_reducible refine Below.drewN ?_ _ | with_reducible refine Below.alloc1 ?_ _ | with_reducible refine Below.setCell1 ?_ (by first | omega | (simp; done) | (simp; omega)) _ | with_reducible refine Below.step ?_ (by with_reducible assumption)))
    have k : Bk w1 w.heap.size 25 (csC A B C a b c st.ns.length st.hs.length st.ts.length) := by subst hV; (repeat (first | with_reducible exact Bk.new' _ _ _ _ (by simp; done) | with_reducible assumption | with_reducible refine Bk.alloc ?_ _ | with_reducible refine Bk.drew ?_ | with_reducible refine Bk.drewN ?_ _ | with_reducible refine Bk.step ?_ (by with_reducible assumption) | with_reducible refine Bk.far ?_ (by first | omega | (simp; done) | (simp; omega)) _))
    clear hV
    replace rA := rA.step hb; replace rB := rB.step hb; replace rC := rC.step hb
    have k_0 := k.cell 0; have k_f0 := k.frozen 0; have k_1 := k.cell 1; have k_f1 := k.frozen 1; have k_2 := k.cell 2; have k_f2 := k.frozen 2; simp only [List.set_cons_zero, List.set_cons_succ, List.getElem?_cons_zero, List.getElem?_cons_succ] at k_0 k_1 k_2; have lt_k := k.lt
    go_wp2_with fail
    refine (hC _ rA rB rC).mono ?_; rintro e w3 ⟨rfl, hx⟩
    go_wp2
    go_ret
    exact ⟨none, 0, rfl, World.ownsRow_nil _ _ _ _, hb.step hx⟩
  rw [hc] at hC
  cases hv : cIn list 0 ((st.hs.length : Int) - 1)
  · have hR : R = [] := by rw [HR.out, if_neg (by simp [hc]), if_pos hv]
    subst hR
    rw [hv] at hI
    clear HR hv hc
    go_enter Try.func26, Try.ntmps26
    go_upto_region 1 with fail
    generalize hV : World.alloc w _ = w1
    have hb : Below w.heap.size w w1 := by subst hV; (repeat (first | with_reducible exact Below.refl _ _ | with_reducible assumption | with_reducible refine Below.drew ?_ | with_reducible refine Below.drewN ?_ _ | with_reducible refine Below.alloc1 ?_ _ | with_reducible refine Below.setCell1 ?_ (by first | omega | (simp; done) | (simp; omega)) _ | with_reducible refine Below.step ?_ (by with_reducible assumption)))
    have k : Bk w1 w.heap.size 25 (csC A B C a b c st.ns.length st.hs.length st.ts.length) := by subst hV; (repeat (first | with_reducible exact Bk.new' _ _ _ _ (by simp; done) | with_reducible assumption | with_reducible refine Bk.alloc ?_ _ | with_reducible refine Bk.drew ?_ | with_reducible refine Bk.drewN ?_ _ | with_reducible refine Bk.step ?_ (by with_reducible assumption) | with_reducible refine Bk.far ?_ (by first | omega | (simp; done) | (simp; omega)) _))
    clear hV
    replace rA := rA.step hb; replace rB := rB.step hb; replace rC := rC.step hb
    have k_0 := k.cell 0; have k_f0 := k.frozen 0; have k_1 := k.cell 1; have k_f1 := k.frozen 1; have k_2 := k.cell 2; have k_f2 := k.frozen 2; simp only [List.set_cons_zero, List.set_cons_succ, List.getElem?_cons_zero, List.getElem?_cons_succ] at k_0 k_1 k_2; have lt_k := k.lt
    go_wp2_with fail
    refine (hC _ rA rB rC).mono ?_; rintro e w3 ⟨rfl, hx⟩
    replace k := k.step hx; (try clear k_0 k_f0 k_1 k_f1 k_2 k_f2); have k_0 := k.cell 0; have k_f0 := k.frozen 0; have k_1 := k.cell 1; have k_f1 := k.frozen 1; have k_2 := k.cell 2; have k_f2 := k.frozen 2; simp only [List.set_cons_zero, List.set_cons_succ, List.getElem?_cons_zero, List.getElem?_cons_succ] at k_0 k_1 k_2; (try clear lt_k); have lt_k := k.lt
    go_wp2_with fail
    refine (hI _).mono ?_; rintro e w4 ⟨rfl, hx2⟩
    go_wp2
    go_ret
    exact ⟨none, 0, rfl, World.ownsRow_nil _ _ _ _, (hb.step hx).step hx2⟩
  · have hb := cIn_t hv
    obtain ⟨i, rfl⟩ : ∃ i : Nat, list = (i : Int) := ⟨list.toNat, by omega⟩
    have hi : i < st.hs.length := by omega
    have hR : R = cWalk st i := by rw [HR.out, if_neg (by simp [hc]), if_neg (by simp [hv])]; simp
    have hl := links_bd (check_links hc)
    have hW := fun (W : World) r r' => r04_walk_any A B C a b c st i W hi h1 h2 hl.1 hl.2 r r'
    subst hR
    rw [hv] at hI
    generalize cWalk st i = wk at *
    clear HR hv hc hl hb
    go_enter Try.func26, Try.ntmps26
    go_upto_region 1 with fail
    generalize hV : World.alloc w _ = w1
    have hb : Below w.heap.size w w1 := by subst hV; (repeat (first | with_reducible exact Below.refl _ _ | with_reducible assumption | with_reducible refine Below.drew ?_ | with_reducible refine Below.drewN ?_ _ | with_reducible refine Below.alloc1 ?_ _ | with_reducible refine Below.setCell1 ?_ (by first | omega | (simp; done) | (simp; omega)) _ | with_reducible refine Below.step ?_ (by with_reducible assumption)))
    have k : Bk w1 w.heap.size 25 (csC A B C a b c st.ns.length st.hs.length st.ts.length) := by subst hV; (repeat (first | with_reducible exact Bk.new' _ _ _ _ (by simp; done) | with_reducible assumption | with_reducible refine Bk.alloc ?_ _ | with_reducible refine Bk.drew ?_ | with_reducible refine Bk.drewN ?_ _ | with_reducible refine Bk.step ?_ (by with_reducible assumption) | with_reducible refine Bk.far ?_ (by first | omega | (simp; done) | (simp; omega)) _))
    clear hV
    replace rA := rA.step hb; replace rB := rB.step hb; replace rC := rC.step hb
    have k_0 := k.cell 0; have k_f0 := k.frozen 0; have k_1 := k.cell 1; have k_f1 := k.frozen 1; have k_2 := k.cell 2; have k_f2 := k.frozen 2; simp only [List.set_cons_zero, List.set_cons_succ, List.getElem?_cons_zero, List.getElem?_cons_succ] at k_0 k_1 k_2; have lt_k := k.lt
    go_wp2_with fail
    refine (hC _ rA rB rC).mono ?_; rintro e w3 ⟨rfl, hx⟩
    replace k := k.step hx; (try clear k_0 k_f0 k_1 k_f1 k_2 k_f2); have k_0 := k.cell 0; have k_f0 := k.frozen 0; have k_1 := k.cell 1; have k_f1 := k.frozen 1; have k_2 := k.cell 2; have k_f2 := k.frozen 2; simp only [List.set_cons_zero, List.set_cons_succ, List.getElem?_cons_zero, List.getElem?_cons_succ] at k_0 k_1 k_2; (try clear lt_k); have lt_k := k.lt
    replace rA := rA.step hx; replace rB := rB.step hx
    replace hb := hb.step hx
    clear hx
    go_wp2_with fail
    refine (hI _).mono ?_; rintro e w4 ⟨rfl, hx⟩
    replace k := k.step hx; (try clear k_0 k_f0 k_1 k_f1 k_2 k_f2); have k_0 := k.cell 0; have k_f0 := k.frozen 0; have k_1 := k.cell 1; have k_f1 := k.frozen 1; have k_2 := k.cell 2; have k_f2 := k.frozen 2; simp only [List.set_cons_zero, List.set_cons_succ, List.getElem?_cons_zero, List.getElem?_cons_succ] at k_0 k_1 k_2; (try clear lt_k); have lt_k := k.lt
    replace rA := rA.step hx; replace rB := rB.step hx
    replace hb := hb.step hx
    clear hx
    go_wp2_with fail
    refine (hW _ rA rB).mono ?_; rintro e w5 ⟨O, co, rfl, ow, hx⟩
    go_wp2
    go_ret
    exact ⟨O, co, rfl, own_mono ow hb.size, hb.step hx⟩
theorem r04_Walk_at (V : Value) (st : Ch) (w : World) (h1 : st.ns.length ≤ 1000) (h2 : st.hs.length ≤ 1000) (h3 : st.ts.length ≤ 1000) (h : CsAt w V st) (list : Int) : Calls Try.prog 26 #[V, .int .i64 list] w fun e w' => ∃ O co, e = .returned (.slice O (cWalkR st list).length co) ∧ w'.ownsRow w.heap.size 3 1 (.slice O (cWalkR st list).length co) (cWalkR st list).length (ints (nI (cWalkR st list))) ∧ Below w.heap.size w w' := by
  obtain ⟨A, B, C, a, b, c, rfl, r1, r2, r3⟩ := h
  exact r04_Walk_any A B C a b c st list w h1 h2 h3 r1 r2 r3
set_option maxRecDepth 100000 in
set_option maxHeartbeats 8000000 in
theorem r04_Len_at (V : Value) (st : Ch) (w : World) (h1 : st.ns.length ≤ 1000) (h2 : st.hs.length ≤ 1000) (h3 : st.ts.length ≤ 1000) (h : CsAt w V st) (list : Int) : Calls Try.prog 32 #[V, .int .i64 list] w fun e w' => e = .returned (.int .i64 ((cWalkR st list).length : Int)) ∧ Below w.heap.size w w' := by
  obtain ⟨A, B, C, a, b, c, rfl, rA, rB, rC⟩ := h
  have hW := fun (W : World) r r' r'' => r04_Walk_any A B C a b c st list W h1 h2 h3 r r' r''
  generalize cWalkR st list = R at *
  go_enter Try.func32, Try.ntmps32
  go_upto_region 1 with fail
  generalize hV : World.alloc w _ = w1
  have hb : Below w.heap.size w w1 := by subst hV; (repeat (first | with_reducible exact Below.refl _ _ | with_reducible assumption | with_reducible refine Below.drew ?_ | with_reducible refine Below.drewN ?_ _ | with_reducible refine Below.alloc1 ?_ _ | with_reducible refine Below.setCell1 ?_ (by first | omega | (simp; done) | (simp; omega)) _ | with_reducible refine Below.step ?_ (by with_reducible assumption)))
  have k : Bk w1 w.heap.size 25 (csC A B C a b c st.ns.length st.hs.length st.ts.length) := by subst hV; (repeat (first | with_reducible exact Bk.new' _ _ _ _ (by simp; done) | with_reducible assumption | with_reducible refine Bk.alloc ?_ _ | with_reducible refine Bk.drew ?_ | with_reducible refine Bk.drewN ?_ _ | with_reducible refine Bk.step ?_ (by with_reducible assumption) | with_reducible refine Bk.far ?_ (by first | omega | (simp; done) | (simp; omega)) _))
  clear hV
  replace rA := rA.step hb; replace rB := rB.step hb; replace rC := rC.step hb
  have k_0 := k.cell 0; have k_f0 := k.frozen 0; have k_1 := k.cell 1; have k_f1 := k.frozen 1; have k_2 := k.cell 2; have k_f2 := k.frozen 2; simp only [List.set_cons_zero, List.set_cons_succ, List.getElem?_cons_zero, List.getElem?_cons_succ] at k_0 k_1 k_2; have lt_k := k.lt
  go_wp2_with fail
  refine (hW _ rA rB rC).mono ?_; rintro e w2 ⟨O, co, rfl, ow, hx⟩
  go_wp2
  go_ret
  exact ⟨rfl, hb.step hx⟩
/-- the document's Front is the chain's -/
theorem front_eq (st : Ch) (list : Int) : cFront st list = hd (cWalkR st list) := by
  unfold cFront cWalkR
  by_cases h1 : cIn list 0 ((st.hs.length : Int) - 1) = false
  · rw [if_pos h1, if_pos h1]; rfl
  rw [if_neg h1, if_neg h1]
  by_cases h : cCheck st = 0
  · have h' : ¬ (cCheck st ≠ 0) := by simp [h]
    rw [if_neg h', if_neg h']
    have b1 := cIn_t (by simpa using h1)
    obtain ⟨hG, hE⟩ := good_of h
    have hi : list.toNat < (lists st).length := by rw [lists_len]; omega
    have h5 := hs_at (n := st.ns.length) hi
    rw [← hE] at h5
    rw [List.getD_eq_getElem?_getD, h5, nth_at hi]
    have h6 := walk_at hG.vl hi
    rw [← hE] at h6
    rw [h6]; rfl
  · rw [if_pos h, if_pos h]; rfl
set_option maxRecDepth 100000 in
set_option maxHeartbeats 8000000 in
theorem r04_Front_at (V : Value) (st : Ch) (w : World) (h1 : st.ns.length ≤ 1000) (h2 : st.hs.length ≤ 1000) (h3 : st.ts.length ≤ 1000) (h : CsAt w V st) (list : Int) : Calls Try.prog 30 #[V, .int .i64 list] w fun e w' => e = .returned (.int .i64 (cFront st list)) ∧ Below w.heap.size w w' := by
  obtain ⟨A, B, C, a, b, c, rfl, rA, rB, rC⟩ := h
  have hW := fun (W : World) r r' r'' => r04_Walk_any A B C a b c st list W h1 h2 h3 r r' r''
  rw [front_eq]
  generalize cWalkR st list = R at *
  go_enter Try.func30, Try.ntmps30
  go_upto_region 1 with fail
  generalize hV : World.alloc w _ = w1
  have hb : Below w.heap.size w w1 := by subst hV; (repeat (first | with_reducible exact Below.refl _ _ | with_reducible assumption | with_reducible refine Below.drew ?_ | with_reducible refine Below.drewN ?_ _ | with_reducible refine Below.alloc1 ?_ _ | with_reducible refine Below.setCell1 ?_ (by first | omega | (simp; done) | (simp; omega)) _ | with_reducible refine Below.step ?_ (by with_reducible assumption)))
  have k : Bk w1 w.heap.size 25 (csC A B C a b c st.ns.length st.hs.length st.ts.length) := by subst hV; (repeat (first | with_reducible exact Bk.new' _ _ _ _ (by simp; done) | with_reducible assumption | with_reducible refine Bk.alloc ?_ _ | with_reducible refine Bk.drew ?_ | with_reducible refine Bk.drewN ?_ _ | with_reducible refine Bk.step ?_ (by with_reducible assumption) | with_reducible refine Bk.far ?_ (by first | omega | (simp; done) | (simp; omega)) _))
  clear hV
  replace rA := rA.step hb; replace rB := rB.step hb; replace rC := rC.step hb
  have k_0 := k.cell 0; have k_f0 := k.frozen 0; have k_1 := k.cell 1; have k_f1 := k.frozen 1; have k_2 := k.cell 2; have k_f2 := k.frozen 2; simp only [List.set_cons_zero, List.set_cons_succ, List.getElem?_cons_zero, List.getElem?_cons_succ] at k_0 k_1 k_2; have lt_k := k.lt
  go_wp2_with fail
  refine (hW _ rA rB rC).mono ?_; rintro e w2 ⟨O, co, rfl, ow, hx⟩
  cases R with
  | nil =>
    go_wp2
    go_ret
    exact ⟨rfl, hb.step hx⟩
  | cons f m =>
    have hne : (((f :: m).length : Int) == 0) = false := by rw [List.length_cons, beq_eq_false_iff_ne]; omega
    have hpos : (0 : Int) < ((f :: m).length : Int) := by rw [List.length_cons]; omega
    obtain ⟨od, rfl, hodb, ho⟩ := (own_rd ow).at_ (k := 0) (by simp)
    have ho2 : (ints (nI (f :: m)))[0]'(by simp) = .int .i64 (f : Int) := by simp
    rw [ho2, show od.add 0 = od by simp [Addr.add]] at ho
    generalize (f :: m).length = q at *
    go_wp2
    go_ret
    exact ⟨rfl, hb.step hx⟩
/-- the document's Back -/
theorem back_eq (st : Ch) (list : Int) : dBack st list = (cWalkR st list).reverse := by
  unfold dBack cWalkR
  by_cases h1 : cIn list 0 ((st.hs.length : Int) - 1) = false
  · rw [if_pos h1, if_pos h1]; rfl
  rw [if_neg h1, if_neg h1]
  by_cases h : cCheck st = 0
  · have h' : ¬ (cCheck st ≠ 0) := by simp [h]
    rw [if_neg h', if_neg h']
    have b1 := cIn_t (by simpa using h1)
    obtain ⟨hG, hE⟩ := good_of h
    have hi : list.toNat < (lists st).length := by rw [lists_len]; omega
    rw [nth_at hi]
    have h6 := walk_at hG.vl hi
    rw [← hE] at h6
    rw [h6]
  · rw [if_pos h, if_pos h]; rfl
set_option maxRecDepth 100000 in
set_option maxHeartbeats 8000000 in
theorem r04_Back_at (V : Value) (st : Ch) (w : World) (h1 : st.ns.length ≤ 1000) (h2 : st.hs.length ≤ 1000) (h3 : st.ts.length ≤ 1000) (h : CsAt w V st) (list : Int) : Calls Try.prog 28 #[V, .int .i64 list] w fun e w' => ∃ O co, e = .returned (.slice O (dBack st list).length co) ∧ w'.ownsRow w.heap.size 3 1 (.slice O (dBack st list).length co) (dBack st list).length (ints (nI (dBack st list))) ∧ Below w.heap.size w w' := by
  obtain ⟨A, B, C, a, b, c, rfl, rA, rB, rC⟩ := h
  obtain ⟨iT, hiT, hy0, hy1, hy2⟩ := info_parts cint_info
  have hW := fun (W : World) r r' r'' => r04_Walk_any A B C a b c st list W h1 h2 h3 r r' r''
  have hRl : (cWalkR st list).length ≤ 1001 := by
    unfold cWalkR
    split
    · simp
    split
    · simp
    · unfold cWalk
      have : ∀ (f : Nat) (x : Int), (cGo st.ns f x).length ≤ f := by
        intro f
        induction f with
        | zero => intro x; simp [cGo]
        | succ f ih => intro x; rw [cGo]; split <;> simp; exact ih _
      exact Nat.le_trans (this _ _) (by omega)
  rw [back_eq]
  generalize cWalkR st list = R at *
  go_enter Try.func28, Try.ntmps28
  go_upto_region 1 with fail
  generalize hV : World.alloc w _ = w1
  have hb : Below w.heap.size w w1 := by subst hV; (repeat (first | with_reducible exact Below.refl _ _ | with_reducible assumption | with_reducible refine Below.drew ?_ | with_reducible refine Below.drewN ?_ _ | with_reducible refine Below.alloc1 ?_ _ | with_reducible refine Below.setCell1 ?_ (by first | omega | (simp; done) | (simp; omega)) _ | with_reducible refine Below.step ?_ (by with_reducible assumption)))
  have k : Bk w1 w.heap.size 25 (csC A B C a b c st.ns.length st.hs.length st.ts.length) := by subst hV; (repeat (first | with_reducible exact Bk.new' _ _ _ _ (by simp; done) | with_reducible assumption | with_reducible refine Bk.alloc ?_ _ | with_reducible refine Bk.drew ?_ | with_reducible refine Bk.drewN ?_ _ | with_reducible refine Bk.step ?_ (by with_reducible assumption) | with_reducible refine Bk.far ?_ (by first | omega | (simp; done) | (simp; omega)) _))
  clear hV
  replace rA := rA.step hb; replace rB := rB.step hb; replace rC := rC.step hb
  have k_0 := k.cell 0; have k_f0 := k.frozen 0; have k_1 := k.cell 1; have k_f1 := k.frozen 1; have k_2 := k.cell 2; have k_f2 := k.frozen 2; simp only [List.set_cons_zero, List.set_cons_succ, List.getElem?_cons_zero, List.getElem?_cons_succ] at k_0 k_1 k_2; have lt_k := k.lt
  go_wp2_with fail
  refine (hW _ rA rB rC).mono ?_; rintro e w2 ⟨O, co, rfl, ow, hx⟩
  have rO := own_rd ow
  replace hb := hb.step hx
  (try clear k_0 k_f0 k_1 k_f1 k_2 k_f2 lt_k)
  clear k hx ow rA rB rC hW
  have wl : IntKind.i64.wrap ((R.length : Int) - 1) = (R.length : Int) - 1 := IntWalk.i64_in _ (by omega)
  go_upto_region 4 with fail
  have hsz := hb.size
  go_loopw [6, 7] (fun ov v wr => ∃ (j : Nat) (Q : Option Addr) (cq : Nat), v = .int .i64 ((R.length : Int) - 1 - j) ∧ ov = .slice Q j cq ∧ j ≤ R.length ∧ wr.ownsRow w2.heap.size 3 1 (.slice Q j cq) j (ints (nI (R.reverse.take j))) ∧ Below w2.heap.size w2 wr) (fun ov _ _ => match ov with | .slice _ n _ => R.length - n | _ => 0)
  case atStart => exact ⟨0, none, 0, by simp, rfl, by omega, World.ownsRow_nil _ _ _ _, Below.refl _ _⟩
  case round =>
    obtain ⟨j, Q, cq, rfl, rfl, hj, own, hbr⟩ := hrel
    by_cases hje : j = R.length
    · have hz : (R.length : Int) - 1 - (j : Int) = -1 := by omega
      rw [hz]
      have HJ := hide hje
      clear hz hje
      go_wp2
      go_ret
      have h9 := HJ.out
      subst h9
      refine ⟨Q, cq, by rw [List.length_reverse]; rfl, ?_, hb.step hbr⟩
      rw [List.take_of_length_le (by simp)] at own
      rw [List.length_reverse]
      exact own_mono own hsz
    · have hjl : j < R.length := by omega
      obtain ⟨q, hq⟩ : ∃ q : Nat, R.length = q + 1 + j := ⟨R.length - 1 - j, by omega⟩
      have hqv : (R.length : Int) - 1 - (j : Int) = (q : Int) := by omega
      have hqn : (q : Int) - 1 = (R.length : Int) - 1 - ((j + 1 : Nat) : Int) := by omega
      rw [hqv]
      have HQN := hide hqn
      have hql : q < R.length := by omega
      have hqi : (q : Int) < (R.length : Int) := by omega
      have wq : IntKind.i64.wrap ((q : Int) - 1) = (q : Int) - 1 := IntWalk.i64_in _ (by omega)
      obtain ⟨od, rfl, hodb, ho⟩ := (rO.step hbr).at_ (k := q) (by simpa using hql)
      have ho2 : (ints (nI R))[q]'(by simpa using hql) = .int .i64 ((R[q] : Nat) : Int) := by simp
      rw [ho2] at ho
      have HT := hide (show R.reverse.take (j + 1) = R.reverse.take j ++ [R[q]] by
        rw [List.take_succ_eq_append_getElem (by simpa using hjl), List.getElem_reverse]
        congr 3; omega)
      generalize R[q] = p at *
      have hs3 := hbr.size
      clear hqv hqn hq ho2 hje
      go_wp2_with (at_builtin; refine wpList_app2 rfl (.tmp 18) (.tmp 23) 23 rfl w2.heap.size 3 iT _ 1 8 Try.underlying23 hiT hy0 hy1 hy2 rfl (by omega) Q j cq (ints (nI (R.reverse.take j))) rfl (own.alloc _) ⟨wr.heap.size, 0, none⟩ 1 1 [.int .i64 (p : Int)] rfl rfl (news_at (cs := [_])) (by simp [Value.oneCell']) (by unfold maxLen; omega) (by omega) (by simp; omega) (by omega) ?_; intro gO co2 w5 own5 hb5 hg5)
      go_roundw
      case rel =>
        refine ⟨j + 1, some ⟨gO, 0, none⟩, co2, by rw [HQN.out], rfl, by omega, ?_, (hbr.alloc (by omega) (.cells #[.int .i64 (p : Int)] 3)).trans hb5⟩
        have e : ints (nI (R.reverse.take (j + 1))) = ints (nI (R.reverse.take j)) ++ [.int .i64 (p : Int)] := by rw [HT.out]; simp
        rw [e]; exact own5
      case measure => simp; omega
end Go.Proofs.Ythicpjfdljgfpaa
