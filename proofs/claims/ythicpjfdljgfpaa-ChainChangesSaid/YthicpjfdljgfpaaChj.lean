/- Package chain: whole. -/
import Derived.Test.YthicpjfdljgfpaaChi
namespace Go.Proofs.Ythicpjfdljgfpaa
open Go.RowKit Go.Sort
set_option linter.unusedSimpArgs false
set_option linter.unusedVariables false

def cCnt (ns : List Nd) (i k : Nat) : Nat := ((ns.take k).filter (fun x => x.l == (i : Int))).length
theorem cCnt_step {ns : List Nd} {i k : Nat} (h : k < ns.length) : cCnt ns i (k + 1) = cCnt ns i k + (if ns[k].l == (i : Int) then 1 else 0) := by
  unfold cCnt
  rw [List.take_succ_eq_append_getElem h, List.filter_append, List.length_append]
  simp only [List.filter_cons, List.filter_nil]
  split <;> simp
theorem cCnt_le (ns : List Nd) (i k : Nat) : cCnt ns i k ≤ ns.length := by
  unfold cCnt
  refine Nat.le_trans (List.length_filter_le _ _) ?_
  simp; omega
theorem lst_take {w : List Nat} {j : Nat} (h : j < w.length) : lst (w.take (j + 1)) = (w[j] : Int) := by
  rw [List.take_succ_eq_append_getElem h, lst_snoc]
set_option maxRecDepth 100000 in
set_option maxHeartbeats 8000000 in
theorem chain_whole_any (A B C : Option Addr) (a b c : Nat) (st : Ch) (i : Nat) (w : World) (hi : i < st.hs.length) (ht : st.ts.length = st.hs.length) (h1 : st.ns.length ≤ 1000) (h2 : st.hs.length ≤ 1000) (hb : ∀ x ∈ st.ns, -1 ≤ x.n ∧ x.n ≤ (st.ns.length : Int) - 1) (hh : ∀ x ∈ st.hs, -1 ≤ x ∧ x ≤ (st.ns.length : Int) - 1)
    (rA : Rd w w.heap.size A (nds st.ns)) (rB : Rd w w.heap.size B (ints st.hs)) (rC : Rd w w.heap.size C (ints st.ts)) :
    Calls Try.prog 49 #[csV A B C a b c st.ns.length st.hs.length st.ts.length, .int .i64 i] w fun e w' => e = .returned (.bool (cRight st i)) ∧ Below w.heap.size w w' := by
  have hW := fun (W : World) (r : Rd W W.heap.size A (nds st.ns)) (r' : Rd W W.heap.size B (ints st.hs)) => chain_walk_any A B C a b c st i W hi h1 h2 hb hh r r'
  have hwb : ∀ p ∈ cWalk st i, p < st.ns.length := cGo_bd hb _ _ (by
    have : st.hs.getD i (-1) = st.hs[i] := by simp [List.getD, hi]
    rw [this]; exact (hh _ (List.getElem_mem hi)).2)
  have HWB := hide hwb
  have hwl : (cWalk st i).length ≤ st.ns.length + 1 := by
    unfold cWalk
    have : ∀ (f : Nat) (x : Int), (cGo st.ns f x).length ≤ f := fun f => by
      induction f with
      | zero => intro x; simp [cGo]
      | succ f ih => intro x; unfold cGo; split; simp; simpa using ih _
    exact this _ _
  have HR := hide (show cRight st i = ((cWalk st i).length == cMany st i && cChain st.ns i (-1) (cWalk st i) && st.ts.getD i (-1) == lst (cWalk st i)) from rfl)
  have HM := hide (show cMany st i = cCnt st.ns i st.ns.length by unfold cMany cCnt; rw [List.take_length])
  generalize cRight st i = R at *
  generalize cWalk st i = wk at *
  clear hb hh hwb
  have hti : i < st.ts.length := by omega
  have h3 : st.ts.length ≤ 1000 := by omega
  clear ht
  go_enter Try.func49, Try.ntmps49
  go_upto_region 2 with fail
  generalize hV : World.alloc w _ = w1
  have hb1 : Below w.heap.size w w1 := by subst hV; (repeat (first | with_reducible exact Below.refl _ _ | with_reducible assumption | with_reducible refine Below.drew ?_ | with_reducible refine Below.drewN ?_ _ | with_reducible refine Below.alloc1 ?_ _ | with_reducible refine Below.setCell1 ?_ (by first | omega | (simp; done) | (simp; omega)) _ | with_reducible refine Below.step ?_ (by with_reducible assumption)))
  have k0 : Bk w1 w.heap.size 30 (csC A B C a b c st.ns.length st.hs.length st.ts.length) := by subst hV; (repeat (first | with_reducible exact Bk.new' _ _ _ _ (by simp; done) | with_reducible assumption | with_reducible refine Bk.alloc ?_ _ | with_reducible refine Bk.drew ?_ | with_reducible refine Bk.drewN ?_ _ | with_reducible refine Bk.step ?_ (by with_reducible assumption) | with_reducible refine Bk.far ?_ (by first | omega | (simp; done) | (simp; omega)) _))
  clear hV
  have k0_0 := k0.cell 0; have k0_f0 := k0.frozen 0; have k0_1 := k0.cell 1; have k0_f1 := k0.frozen 1; have k0_2 := k0.cell 2; have k0_f2 := k0.frozen 2; simp only [List.set_cons_zero, List.set_cons_succ, List.getElem?_cons_zero, List.getElem?_cons_succ] at k0_0 k0_1 k0_2; have lt_k0 := k0.lt
  go_wp2_with fail
  (try clear k0_0 k0_f0 k0_1 k0_f1 k0_2 k0_f2 lt_k0)
  go_loopw [5, 15] (fun lv iv wr => ∃ k : Nat, k ≤ st.ns.length ∧ iv = .int .i64 k ∧ lv = .int .i64 (cCnt st.ns i k) ∧ Bk wr w.heap.size 30 (csC A B C a b c st.ns.length st.hs.length st.ts.length) ∧ Below w.heap.size w wr) (fun _ iv _ => st.ns.length - (intOf iv).toNat)
  case atStart => exact ⟨0, Nat.zero_le _, rfl, by simp [cCnt], k0, hb1⟩
  case round =>
    clear k0 hb1
    obtain ⟨k, hk, rfl, rfl, k0, hbr⟩ := hrel
    have hcl := cCnt_le st.ns i k
    by_cases hlt : k < st.ns.length
    · obtain ⟨ad, rfl, hadb, c1, c2, c3⟩ := (rA.below hbr).nd hlt
      have hst := hide (cCnt_step (i := i) hlt)
      have lk := k0.lt
      generalize st.ns[k] = q at *
      by_cases hq : q.l = (i : Int)
      · have HS := hide (show cCnt st.ns i (k + 1) = cCnt st.ns i k + 1 by rw [hst.out]; simp [hq])
        have bq : (q.l == (i : Int)) = true := by simpa using hq
        clear hst
        go_wp2_with fail
        go_roundw
        case rel => exact ⟨k + 1, by omega, by go_num, by rw [HS.out]; go_num, k0.alloc _, by (repeat (first | with_reducible exact Below.refl _ _ | with_reducible assumption | with_reducible refine Below.drew ?_ | with_reducible refine Below.drewN ?_ _ | with_reducible refine Below.alloc1 ?_ _ | with_reducible refine Below.setCell1 ?_ (by first | omega | (simp; done) | (simp; omega)) _ | with_reducible refine Below.step ?_ (by with_reducible assumption)))⟩
        case measure => simp [intOf]; omega
      · have bq : (q.l == (i : Int)) = false := by simpa using hq
        have HS := hide (show cCnt st.ns i (k + 1) = cCnt st.ns i k by rw [hst.out]; simp [bq])
        clear hst
        go_wp2_with fail
        go_roundw
        case rel => exact ⟨k + 1, by omega, by go_num, by rw [HS.out], k0.alloc _, by (repeat (first | with_reducible exact Below.refl _ _ | with_reducible assumption | with_reducible refine Below.drew ?_ | with_reducible refine Below.drewN ?_ _ | with_reducible refine Below.alloc1 ?_ _ | with_reducible refine Below.setCell1 ?_ (by first | omega | (simp; done) | (simp; omega)) _ | with_reducible refine Below.step ?_ (by with_reducible assumption)))⟩
        case measure => simp [intOf]; omega
    · have hke : k = st.ns.length := by omega
      subst hke
      have rA2 := (rA.below hbr).more hbr.size
      have rB2 := (rB.below hbr).more hbr.size
      have lk := k0.lt
      have k0_0 := k0.cell 0; have k0_f0 := k0.frozen 0; have k0_1 := k0.cell 1; have k0_f1 := k0.frozen 1; have k0_2 := k0.cell 2; have k0_f2 := k0.frozen 2; simp only [List.set_cons_zero, List.set_cons_succ, List.getElem?_cons_zero, List.getElem?_cons_succ] at k0_0 k0_1 k0_2; have lt_k0 := k0.lt
      obtain ⟨wo, rfl⟩ : ∃ wo : World, wo = wr := ⟨_, rfl⟩
      go_wp2_with fail
      refine (hW _ rA2 rB2).mono ?_; rintro e w5 ⟨O, co, rfl, ow, hx⟩
      replace k0 := k0.step hx
      replace hbr := hbr.step hx
      have rO := own_rd ow
      clear hx hW ow rA2 rB2
      (try clear k0_0 k0_f0 k0_1 k0_f1 k0_2 k0_f2 lt_k0)
      go_wp2_with fail
      go_loopw [5, 8, 30] (fun lv pv iv wr => ∃ j : Nat, j ≤ wk.length ∧ iv = .int .i64 j ∧ lv = .int .i64 ((cCnt st.ns i st.ns.length : Int) - j) ∧ pv = .int .i64 (lst (wk.take j)) ∧ Hid (cChain st.ns i (-1) wk = cChain st.ns i (lst (wk.take j)) (wk.drop j)) ∧ Bk wr w.heap.size 30 (csC A B C a b c st.ns.length st.hs.length st.ts.length) ∧ Below w5.heap.size w5 wr) (fun _ _ iv _ => wk.length - (intOf iv).toNat)
      case atStart => exact ⟨0, Nat.zero_le _, rfl, by simp, rfl, rfl, k0, Below.refl _ _⟩
      case round =>
        clear k0
        obtain ⟨j, hj, rfl, rfl, rfl, HC, k0, hb5⟩ := hrel
        have lk0 := k0.lt
        have hcl := cCnt_le st.ns i st.ns.length
        by_cases hlt : j < wk.length
        · obtain ⟨od, rfl, hodb, oc⟩ := (rO.step hb5).at_ (k := j) (by simpa using hlt)
          have oc2 : wr.cell? (od.add j) = some (.int .i64 (wk[j] : Int)) := by rw [oc]; simp
          have hp := HWB.out _ (List.getElem_mem hlt)
          obtain ⟨ad, rfl, hadb, c1, c2, c3⟩ := (rA.below (hbr.step hb5)).nd hp
          have HT := hide (lst_take hlt)
          have HC2 := hide (show cChain st.ns i (-1) wk = ((st.ns[wk[j]].l == (i : Int)) && (st.ns[wk[j]].p == lst (wk.take j)) && cChain st.ns i (wk[j] : Int) (wk.drop (j + 1))) by
            rw [HC.out, List.drop_eq_getElem_cons hlt]
            simp only [cChain, getD_get hp])
          clear oc HC
          generalize st.ns[wk[j]] = q at *
          generalize lst (wk.take j) = pv at *
          have hpi : ((wk[j] : Nat) : Int) < (st.ns.length : Int) := by omega
          generalize wk[j] = p at *
          have k0_0 := k0.cell 0; have k0_f0 := k0.frozen 0; have k0_1 := k0.cell 1; have k0_f1 := k0.frozen 1; have k0_2 := k0.cell 2; have k0_f2 := k0.frozen 2; simp only [List.set_cons_zero, List.set_cons_succ, List.getElem?_cons_zero, List.getElem?_cons_succ] at k0_0 k0_1 k0_2; have lt_k0 := k0.lt
          by_cases e1 : q.l = (i : Int)
          · have b1 : (q.l != (i : Int)) = false := by simpa using e1
            by_cases e2 : q.p = pv
            · have b2 : (q.p != pv) = false := by simpa using e2
              have HC3 := hide (show cChain st.ns i (-1) wk = cChain st.ns i (p : Int) (wk.drop (j + 1)) by rw [HC2.out]; simp [e1, e2])
              clear HC2 e2
              go_wp2_with fail
              go_roundw
              case rel => exact ⟨j + 1, by omega, by go_num, by go_num, by rw [HT.out], hide (by rw [HT.out]; exact HC3.out), k0.alloc _, by (repeat (first | with_reducible exact Below.refl _ _ | with_reducible assumption | with_reducible refine Below.drew ?_ | with_reducible refine Below.drewN ?_ _ | with_reducible refine Below.alloc1 ?_ _ | with_reducible refine Below.setCell1 ?_ (by first | omega | (simp; done) | (simp; omega)) _ | with_reducible refine Below.step ?_ (by with_reducible assumption)))⟩
              case measure => simp [intOf]; omega
            · have b2 : (q.p != pv) = true := by simpa using e2
              have hR : R = false := by rw [HR.out, HC2.out]; simp [e2]
              have HRF := hide hR
              clear hR HC2
              go_wp2
              go_ret
              exact ⟨ret_bool HRF.out.symm, by (repeat (first | with_reducible exact Below.refl _ _ | with_reducible assumption | with_reducible refine Below.drew ?_ | with_reducible refine Below.drewN ?_ _ | with_reducible refine Below.alloc1 ?_ _ | with_reducible refine Below.setCell1 ?_ (by first | omega | (simp; done) | (simp; omega)) _ | with_reducible refine Below.step ?_ (by with_reducible assumption)))⟩
          · have b1 : (q.l != (i : Int)) = true := by simpa using e1
            have hR : R = false := by rw [HR.out, HC2.out]; simp [e1]
            have HRF := hide hR
            clear hR HC2
            go_wp2
            go_ret
            exact ⟨ret_bool HRF.out.symm, by (repeat (first | with_reducible exact Below.refl _ _ | with_reducible assumption | with_reducible refine Below.drew ?_ | with_reducible refine Below.drewN ?_ _ | with_reducible refine Below.alloc1 ?_ _ | with_reducible refine Below.setCell1 ?_ (by first | omega | (simp; done) | (simp; omega)) _ | with_reducible refine Below.step ?_ (by with_reducible assumption)))⟩
        · have hje : j = wk.length := by omega
          subst hje
          obtain ⟨cd, rfl, hcdb, cc⟩ := (rC.below (hbr.step hb5)).at_ (k := i) (by simpa using hti)
          rw [ints_get st.ts i hti] at cc
          have hR : R = ((wk.length == cCnt st.ns i st.ns.length) && (st.ts[i] == lst wk)) := by
            have h4 := HC.out
            rw [List.drop_length, List.take_length] at h4
            rw [HR.out, h4, HM.out]
            have : st.ts.getD i (-1) = st.ts[i] := by simp [List.getD, hti]
            rw [this]; simp [cChain]
          have HRF := hide hR
          have hit : (i : Int) < (st.ts.length : Int) := by omega
          rw [List.take_length]
          clear hR HC
          generalize st.ts[i] = tv at *
          generalize lst wk = lw at *
          have k0_0 := k0.cell 0; have k0_f0 := k0.frozen 0; have k0_1 := k0.cell 1; have k0_f1 := k0.frozen 1; have k0_2 := k0.cell 2; have k0_f2 := k0.frozen 2; simp only [List.set_cons_zero, List.set_cons_succ, List.getElem?_cons_zero, List.getElem?_cons_succ] at k0_0 k0_1 k0_2; have lt_k0 := k0.lt
          by_cases e1 : wk.length = cCnt st.ns i st.ns.length
          · have b1 : ((cCnt st.ns i st.ns.length : Int) - (wk.length : Int) == 0) = true := by simp; omega
            have b3 : (wk.length == cCnt st.ns i st.ns.length) = true := by simpa using e1
            clear e1
            go_wp2
            go_ret
            exact ⟨ret_bool (by rw [HRF.out, b3]; simp), by (repeat (first | with_reducible exact Below.refl _ _ | with_reducible assumption | with_reducible refine Below.drew ?_ | with_reducible refine Below.drewN ?_ _ | with_reducible refine Below.alloc1 ?_ _ | with_reducible refine Below.setCell1 ?_ (by first | omega | (simp; done) | (simp; omega)) _ | with_reducible refine Below.step ?_ (by with_reducible assumption)))⟩
          · have b1 : ((cCnt st.ns i st.ns.length : Int) - (wk.length : Int) == 0) = false := by simp; omega
            have b3 : (wk.length == cCnt st.ns i st.ns.length) = false := by simpa using e1
            clear e1
            go_wp2
            go_ret
            exact ⟨ret_bool (by rw [HRF.out, b3]; simp), by (repeat (first | with_reducible exact Below.refl _ _ | with_reducible assumption | with_reducible refine Below.drew ?_ | with_reducible refine Below.drewN ?_ _ | with_reducible refine Below.alloc1 ?_ _ | with_reducible refine Below.setCell1 ?_ (by first | omega | (simp; done) | (simp; omega)) _ | with_reducible refine Below.step ?_ (by with_reducible assumption)))⟩
end Go.Proofs.Ythicpjfdljgfpaa
