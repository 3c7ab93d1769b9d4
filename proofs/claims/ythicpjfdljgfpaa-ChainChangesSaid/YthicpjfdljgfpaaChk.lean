/- Package chain: Check. -/
import Derived.Test.YthicpjfdljgfpaaChj
namespace Go.Proofs.Ythicpjfdljgfpaa
open Go.RowKit Go.Sort
set_option linter.unusedSimpArgs false
set_option linter.unusedVariables false

theorem links_bd {st : Ch} (h : cLinks st = true) : (∀ x ∈ st.ns, -1 ≤ x.n ∧ x.n ≤ (st.ns.length : Int) - 1) ∧ ∀ x ∈ st.hs, -1 ≤ x ∧ x ≤ (st.ns.length : Int) - 1 := by
  simp only [cLinks, Bool.and_eq_true, List.all_eq_true] at h
  exact ⟨fun x hx => cIn_t (h.1.1 x hx).1.2, fun x hx => cIn_t (h.1.2 x hx)⟩
theorem all_range_f {n k : Nat} {f : Nat → Bool} (hk : k < n) (h : f k = false) : (List.range n).all f = false := by
  rw [List.all_eq_false]
  exact ⟨k, List.mem_range.2 hk, by simp [h]⟩
theorem all_range_t {n : Nat} {f : Nat → Bool} (h : ∀ k, k < n → f k = true) : (List.range n).all f = true := by
  rw [List.all_eq_true]
  exact fun k hk => h k (List.mem_range.1 hk)
set_option maxRecDepth 100000 in
set_option maxHeartbeats 8000000 in
theorem chain_Check_any (A B C : Option Addr) (a b c : Nat) (st : Ch) (w : World) (h1 : st.ns.length ≤ 1000) (h2 : st.hs.length ≤ 1000) (h3 : st.ts.length ≤ 1000) (rA : Rd w w.heap.size A (nds st.ns)) (rB : Rd w w.heap.size B (ints st.hs)) (rC : Rd w w.heap.size C (ints st.ts)) :
    Calls Try.prog 22 #[csV A B C a b c st.ns.length st.hs.length st.ts.length] w fun e w' => e = .returned (.int .i64 (cCheck st)) ∧ Below w.heap.size w w' := by
  have hI1 := fun W => chain_in_any (st.ns.length : Int) 1 64 W
  have hI2 := fun W => chain_in_any (st.hs.length : Int) 1 8 W
  have hL := fun (W : World) r r' r'' => chain_linked_any A B C a b c st W h1 h2 h3 r r' r''
  have hF := fun (W : World) r => nodes_ContainsFunc 48 #[] cLoose W loose_enters (fun x V hb => chain_loose_any x V) A a st.ns (by unfold maxLen; omega) r
  have HW := hide (fun (hl : cLinks st = true) (ht : st.ts.length = st.hs.length) (i : Nat) (hi : i < st.hs.length) (W : World) r r' r'' => chain_whole_any A B C a b c st i W hi ht h1 h2 (links_bd hl).1 (links_bd hl).2 r r' r'')
  have HF := hide (fun hl => loose_form (st := st) hl)
  have HS := hide (show cSize st = (cIn st.ns.length 1 64 && cIn st.hs.length 1 8 && st.ts.length == st.hs.length) from rfl)
  have HR := hide (show cCheck st = if cSize st = false then 5 else if cLinks st = false then 8 else if cForm st = false then 4 else if (List.range st.hs.length).all (cRight st) = false then 10 else 0 from rfl)
  generalize cCheck st = R at *
  generalize cIn st.ns.length 1 64 = v1 at *
  generalize cIn st.hs.length 1 8 = v2 at *
  go_enter Try.func22, Try.ntmps22
  go_upto_region 1 with fail
  generalize hV : World.alloc w _ = w1
  have hb : Below w.heap.size w w1 := by subst hV; (repeat (first | with_reducible exact Below.refl _ _ | with_reducible assumption | with_reducible refine Below.drew ?_ | with_reducible refine Below.drewN ?_ _ | with_reducible refine Below.alloc1 ?_ _ | with_reducible refine Below.setCell1 ?_ (by first | omega | (simp; done) | (simp; omega)) _ | with_reducible refine Below.step ?_ (by with_reducible assumption)))
  have k : Bk w1 w.heap.size 30 (csC A B C a b c st.ns.length st.hs.length st.ts.length) := by subst hV; (repeat (first | with_reducible exact Bk.new' _ _ _ _ (by simp; done) | with_reducible assumption | with_reducible refine Bk.alloc ?_ _ | with_reducible refine Bk.drew ?_ | with_reducible refine Bk.drewN ?_ _ | with_reducible refine Bk.step ?_ (by with_reducible assumption) | with_reducible refine Bk.far ?_ (by first | omega | (simp; done) | (simp; omega)) _))
  clear hV
  replace rA := rA.step hb; replace rB := rB.step hb; replace rC := rC.step hb
  have k_0 := k.cell 0; have k_f0 := k.frozen 0; have k_1 := k.cell 1; have k_f1 := k.frozen 1; have k_2 := k.cell 2; have k_f2 := k.frozen 2; simp only [List.set_cons_zero, List.set_cons_succ, List.getElem?_cons_zero, List.getElem?_cons_succ] at k_0 k_1 k_2; have lt_k := k.lt
  go_wp2_with fail
  refine (hI1 _).mono ?_; rintro e w2 ⟨rfl, rfl⟩
  cases v1
  · have hR : R = 5 := by rw [HR.out, HS.out]; simp
    have HR5 := hide hR
    clear hR
    go_wp2
    go_ret
    exact ⟨ret_int HR5.out.symm, hb⟩
  go_wp2_with fail
  refine (hI2 _).mono ?_; rintro e w2 ⟨rfl, rfl⟩
  cases v2
  · have hR : R = 5 := by rw [HR.out, HS.out]; simp
    have HR5 := hide hR
    clear hR
    go_wp2
    go_ret
    exact ⟨ret_int HR5.out.symm, hb⟩
  by_cases ht : st.ts.length = st.hs.length
  case neg =>
    have bt : ((st.ts.length : Int) != (st.hs.length : Int)) = true := by rw [bne_iff_ne]; omega
    have hR : R = 5 := by rw [HR.out, HS.out]; simp [ht]
    have HR5 := hide hR
    clear hR ht
    go_wp2
    go_ret
    exact ⟨ret_int HR5.out.symm, hb⟩
  have bt : ((st.ts.length : Int) != (st.hs.length : Int)) = false := by rw [bne_eq_false_iff_eq]; omega
  have hR0 : R = if cLinks st = false then 8 else if cForm st = false then 4 else if (List.range st.hs.length).all (cRight st) = false then 10 else 0 := by rw [HR.out, HS.out]; simp [ht]
  have HR2 := hide hR0
  have HTL := hide ht
  clear hR0 ht HR HS hI1 hI2
  cases hlk : cLinks st
  · have hR : R = 8 := by rw [HR2.out, if_pos hlk]
    have HR5 := hide hR
    rw [hlk] at hL
    clear hR HW HF hlk HR2 hF
    go_wp2_with fail
    refine (hL _ rA rB rC).mono ?_; rintro e w3 ⟨rfl, hx⟩
    go_wp2
    go_ret
    exact ⟨ret_int HR5.out.symm, hb.step hx⟩
  have hq := HF.out hlk
  rw [hq] at hF
  have hwh := HW.out hlk HTL.out
  rw [hlk] at hL
  have hR0 : R = if cForm st = false then 4 else if (List.range st.hs.length).all (cRight st) = false then 10 else 0 := by rw [HR2.out, if_neg (by rw [hlk]; simp)]
  have HR3 := hide hR0
  clear hR0 HR2 HF HW hq hlk
  go_wp2_with fail
  refine (hL _ rA rB rC).mono ?_; rintro e w3 ⟨rfl, hx⟩
  replace k := k.step hx; (try clear k_0 k_f0 k_1 k_f1 k_2 k_f2); have k_0 := k.cell 0; have k_f0 := k.frozen 0; have k_1 := k.cell 1; have k_f1 := k.frozen 1; have k_2 := k.cell 2; have k_f2 := k.frozen 2; simp only [List.set_cons_zero, List.set_cons_succ, List.getElem?_cons_zero, List.getElem?_cons_succ] at k_0 k_1 k_2; (try clear lt_k); have lt_k := k.lt
  replace rA := rA.step hx; replace rB := rB.step hx; replace rC := rC.step hx
  replace hb := hb.step hx
  clear hx hL
  go_wp2_with fail
  refine (hF _ rA).mono ?_; rintro e w4 ⟨rfl, hx⟩
  replace k := k.step hx; (try clear k_0 k_f0 k_1 k_f1 k_2 k_f2); have k_0 := k.cell 0; have k_f0 := k.frozen 0; have k_1 := k.cell 1; have k_f1 := k.frozen 1; have k_2 := k.cell 2; have k_f2 := k.frozen 2; simp only [List.set_cons_zero, List.set_cons_succ, List.getElem?_cons_zero, List.getElem?_cons_succ] at k_0 k_1 k_2; (try clear lt_k); have lt_k := k.lt
  replace rA := rA.step hx; replace rB := rB.step hx; replace rC := rC.step hx
  replace hb := hb.step hx
  clear hx hF
  cases hfm : cForm st
  · have hR : R = 4 := by rw [HR3.out, if_pos hfm]
    have HR5 := hide hR
    clear hR hwh HR3 hfm
    go_wp2
    go_ret
    exact ⟨ret_int HR5.out.symm, hb⟩
  have hR0 : R = if (List.range st.hs.length).all (cRight st) = false then 10 else 0 := by rw [HR3.out, if_neg (by rw [hfm]; simp)]
  have HR4 := hide hR0
  clear hR0 HR3 hfm
  obtain ⟨wo, rfl⟩ : ∃ wo : World, wo = w4 := ⟨_, rfl⟩
  go_wp2_with fail
  (try clear k_0 k_f0 k_1 k_f1 k_2 k_f2 lt_k)
  go_loopw [34] (fun iv wr => ∃ j : Nat, j ≤ st.hs.length ∧ iv = .int .i64 j ∧ Hid (∀ q, q < j → cRight st q = true) ∧ Below wo.heap.size wo wr) (fun iv _ => st.hs.length - (intOf iv).toNat)
  case atStart => exact ⟨0, Nat.zero_le _, rfl, fun q hq => by omega, Below.refl _ _⟩
  case round =>
    obtain ⟨j, hj, rfl, HJ, hbj⟩ := hrel
    replace k := k.step hbj; replace rA := rA.step hbj; replace rB := rB.step hbj; replace rC := rC.step hbj
    have k_0 := k.cell 0; have k_f0 := k.frozen 0; have k_1 := k.cell 1; have k_f1 := k.frozen 1; have k_2 := k.cell 2; have k_f2 := k.frozen 2; simp only [List.set_cons_zero, List.set_cons_succ, List.getElem?_cons_zero, List.getElem?_cons_succ] at k_0 k_1 k_2; have lt_k := k.lt
    by_cases hlt : j < st.hs.length
    · have hwj := fun W => hwh j hlt W
      cases hr : cRight st j
      · have hR : R = 10 := by rw [HR4.out, if_pos (all_range_f hlt hr)]
        have HR5 := hide hR
        rw [hr] at hwj
        clear hR hwh HR4 hr
        go_wp2_with fail
        refine (hwj _ rA rB rC).mono ?_; rintro e w5 ⟨rfl, hx⟩
        go_wp2
        go_ret
        exact ⟨ret_int HR5.out.symm, (hb.step hbj).step hx⟩
      · have HJ2 : Hid (∀ q, q < j + 1 → cRight st q = true) := fun q hq => by
          by_cases e : q = j
          · subst e; exact hr
          · exact HJ.out q (by omega)
        rw [hr] at hwj
        clear hwh HR4 hr
        go_wp2_with fail
        refine (hwj _ rA rB rC).mono ?_; rintro e w5 ⟨rfl, hx⟩
        go_wp2_with fail
        go_roundw
        case rel => exact ⟨j + 1, by omega, by go_num, HJ2, hbj.step hx⟩
        case measure => simp [intOf]; omega
    · have hje : j = st.hs.length := by omega
      subst hje
      have hR : R = 0 := by rw [HR4.out, if_neg (by rw [all_range_t HJ.out]; simp)]
      have HR5 := hide hR
      clear hR hwh HR4
      go_wp2
      go_ret
      exact ⟨ret_int HR5.out.symm, hb.step hbj⟩
end Go.Proofs.Ythicpjfdljgfpaa
