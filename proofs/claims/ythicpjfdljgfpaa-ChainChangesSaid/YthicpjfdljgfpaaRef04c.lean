/- Package callboyref04: right. -/
import Derived.Test.YthicpjfdljgfpaaRef04b
import Derived.Test.YthicpjfdljgfpaaRef04
namespace Go.Proofs.Ythicpjfdljgfpaa
open Go.RowKit Go.Sort
set_option linter.unusedSimpArgs false
set_option linter.unusedVariables false

theorem cChain_drop {ns : List Nd} {i : Nat} {prev : Int} {W : List Nat} {j : Nat} (hj : j < W.length) :
    cChain ns i prev (W.drop j) = ((ns.getD W[j] nd0).l == (i : Int) && (ns.getD W[j] nd0).p == prev && cChain ns i (W[j] : Int) (W.drop (j + 1))) := by
  rw [List.drop_eq_getElem_cons hj, cChain]
theorem lst_tk {W : List Nat} {j : Nat} (hj : j < W.length) : lst (W.take (j + 1)) = (W[j] : Int) := by
  rw [List.take_succ_eq_append_getElem hj, lst_snoc]
set_option maxRecDepth 100000 in
set_option maxHeartbeats 8000000 in
theorem r04_right_any (A B C : Option Addr) (a b c : Nat) (st : Ch) (i : Nat) (w : World) (hi : i < st.hs.length) (hit : i < st.ts.length) (h1 : st.ns.length ≤ 1000) (h2 : st.hs.length ≤ 1000) (hb : ∀ x ∈ st.ns, -1 ≤ x.n ∧ x.n ≤ (st.ns.length : Int) - 1) (hh : ∀ x ∈ st.hs, -1 ≤ x ∧ x ≤ (st.ns.length : Int) - 1)
    (rA : Rd w w.heap.size A (nds st.ns)) (rB : Rd w w.heap.size B (ints st.hs)) (rC : Rd w w.heap.size C (ints st.ts)) :
    Calls Try.prog 51 #[csV A B C a b c st.ns.length st.hs.length st.ts.length, .int .i64 i] w fun e w' => e = .returned (.bool (cRight st i)) ∧ Below w.heap.size w w' := by
  have hWk := fun (W : World) r r' => r04_walk_any A B C a b c st i W hi h1 h2 hb hh r r'
  have HR := hide (show cRight st i = ((cWalk st i).length == cMany st i && cChain st.ns i (-1) (cWalk st i) && st.ts.getD i (-1) == lst (cWalk st i)) from rfl)
  have hbd : ∀ p ∈ cWalk st i, p < st.ns.length := by
    refine cGo_bd hb _ _ ?_
    have := hh _ (List.getElem_mem hi)
    have e : st.hs.getD i (-1) = st.hs[i] := by simp [List.getD, hi]
    rw [e]; exact this.2
  have hWl : (cWalk st i).length ≤ st.ns.length + 1 := by
    unfold cWalk
    have : ∀ (f : Nat) (x : Int), (cGo st.ns f x).length ≤ f := by
      intro f
      induction f with
      | zero => intro x; simp [cGo]
      | succ f ih => intro x; rw [cGo]; split <;> simp; exact ih _
    exact this _ _
  have HT := hide (show st.ts.getD i (-1) = st.ts[i] by simp [List.getD, hit])
  have HM := hide (show cMany st i = ((st.ns.take st.ns.length).filter (fun x => x.l == (i : Int))).length by rw [List.take_length]; rfl)
  generalize cWalk st i = W at *
  generalize cRight st i = R at *
  have hti : (i : Int) < (st.ts.length : Int) := by omega
  go_enter Try.func51, Try.ntmps51
  go_upto_region 1 with fail
  generalize hV : World.alloc w _ = w1
  have hb1 : Below w.heap.size w w1 := by subst hV; (repeat (first | with_reducible exact Below.refl _ _ | with_reducible assumption | with_reducible refine Below.drew ?_ | with_reducible refine Below.drewN ?_ _ | with_reducible refine Below.alloc1 ?_ _ | with_reducible refine Below.setCell1 ?_ (by first | omega | (simp; done) | (simp; omega)) _ | with_reducible refine Below.step ?_ (by with_reducible assumption)))
  have k0 : Bk w1 w.heap.size 25 (csC A B C a b c st.ns.length st.hs.length st.ts.length) := by subst hV; (repeat (first | with_reducible exact Bk.new' _ _ _ _ (by simp; done) | with_reducible assumption | with_reducible refine Bk.alloc ?_ _ | with_reducible refine Bk.drew ?_ | with_reducible refine Bk.drewN ?_ _ | with_reducible refine Bk.step ?_ (by with_reducible assumption) | with_reducible refine Bk.far ?_ (by first | omega | (simp; done) | (simp; omega)) _))
  clear hV
  replace rA := rA.step hb1; replace rB := rB.step hb1; replace rC := rC.step hb1
  have k0_0 := k0.cell 0; have k0_f0 := k0.frozen 0; have k0_1 := k0.cell 1; have k0_f1 := k0.frozen 1; have k0_2 := k0.cell 2; have k0_f2 := k0.frozen 2; simp only [List.set_cons_zero, List.set_cons_succ, List.getElem?_cons_zero, List.getElem?_cons_succ] at k0_0 k0_1 k0_2; have lt_k0 := k0.lt
  go_wp2_with fail
  refine (hWk _ rA rB).mono ?_; rintro e w2 ⟨O, co, rfl, ow, hy⟩
  have rO := own_rd ow
  replace hb1 := hb1.step hy
  replace rA := rA.step hy; replace rC := rC.step hy
  (try clear k0_0 k0_f0 k0_1 k0_f1 k0_2 k0_f2 lt_k0)
  replace k0 := k0.step hy
  clear hy ow rB hWk
  go_upto_region 4 with fail
  go_loopw [6, 7] (fun v6 v wr => ∃ m : Nat, v = .int .i64 m ∧ m ≤ st.ns.length ∧ v6 = .int .i64 (((st.ns.take m).filter (fun x => x.l == (i : Int))).length : Int) ∧ Below w2.heap.size w2 wr) (fun _ v _ => match v with | .int _ k => st.ns.length - k.toNat | _ => 0)
  case atStart => exact ⟨0, rfl, by omega, rfl, Below.refl _ _⟩
  case round =>
    obtain ⟨m, rfl, hm, rfl, hbm⟩ := hrel
    have k := k0.step hbm
    have k_0 := k.cell 0; have k_f0 := k.frozen 0; have k_1 := k.cell 1; have k_f1 := k.frozen 1; have k_2 := k.cell 2; have k_f2 := k.frozen 2; simp only [List.set_cons_zero, List.set_cons_succ, List.getElem?_cons_zero, List.getElem?_cons_succ] at k_0 k_1 k_2; have lt_k := k.lt
    by_cases hme : m = st.ns.length
    · subst hme
      rw [← HM.out]
      generalize cMany st i = M at *
      by_cases hWM : W.length = M
      · have bW : ((W.length : Int) != (M : Int)) = false := by simp; omega
        subst hWM
        obtain ⟨wb, rfl⟩ : ∃ wn : World, wn = wr := ⟨_, rfl⟩
        replace rA := rA.step hbm; replace rC := rC.step hbm; replace rO := rO.step hbm; replace hb1 := hb1.step hbm
        clear hbm HM k0
        go_upto_region 12 with fail
        (try clear k_0 k_f0 k_1 k_f1 k_2 k_f2 lt_k)
        go_loopw [8, 9] (fun v8 v wr => ∃ (j : Nat) (prev : Int), v = .int .i64 j ∧ v8 = .int .i64 prev ∧ j ≤ W.length ∧ Hid (prev = lst (W.take j)) ∧ Hid (cChain st.ns i (-1) W = cChain st.ns i prev (W.drop j)) ∧ Below wb.heap.size wb wr) (fun _ v _ => match v with | .int _ k => W.length - k.toNat | _ => 0)
        case atStart => exact ⟨0, -1, rfl, rfl, by omega, hide rfl, hide (by simp), Below.refl _ _⟩
        case round =>
          obtain ⟨j, prev, rfl, rfl, hj, HP, HC, hbm⟩ := hrel
          replace k := k.step hbm
          have k_0 := k.cell 0; have k_f0 := k.frozen 0; have k_1 := k.cell 1; have k_f1 := k.frozen 1; have k_2 := k.cell 2; have k_f2 := k.frozen 2; simp only [List.set_cons_zero, List.set_cons_succ, List.getElem?_cons_zero, List.getElem?_cons_succ] at k_0 k_1 k_2; have lt_k := k.lt
          by_cases hje : j = W.length
          · subst hje
            obtain ⟨cd, rfl, _, hc⟩ := (rC.step hbm).at_ (k := i) (by simpa using hit)
            rw [ints_get st.ts i hit] at hc
            have hR := hide (show R = (st.ts[i] == prev) by
              rw [HR.out, HC.out, HT.out, HP.out, List.drop_length, List.take_length]; simp [cChain])
            generalize st.ts[i] = tv at *
            go_wp2
            go_ret
            exact ⟨ret_bool hR.out.symm, hb1.step hbm⟩
          · have hjl : j < W.length := by omega
            have hji : (j : Int) < (W.length : Int) := by omega
            have hpn := hbd _ (List.getElem_mem hjl)
            obtain ⟨od, rfl, hodb, ho⟩ := (rO.step hbm).at_ (k := j) (by simpa using hjl)
            have ho2 : (ints (nI W))[j]'(by simpa using hjl) = .int .i64 ((W[j] : Nat) : Int) := by simp
            rw [ho2] at ho
            have HC2 := hide (HC.out.trans (cChain_drop hjl))
            have HL2 := hide (lst_tk hjl)
            obtain ⟨ad, rfl, hadb, c1, c2, c3⟩ := (rA.step hbm).nd hpn
            have HG := hide (show st.ns.getD W[j] nd0 = st.ns[W[j]] from getD_get hpn)
            rw [HG.out] at HC2
            generalize st.ns[W[j]] = x at *
            generalize W[j] = p at *
            have hpi : (p : Int) < (st.ns.length : Int) := by omega
            have q1 : ∀ d os, (grow (redrawn wr d) os).cell? (od.add j) = some (.int .i64 (p : Int)) := fun d os => ((below_regrown wr d os).cell (p := od.add j) (by rw [add_block]; exact hodb)).trans ho
            have q2 : ∀ d os, (grow (redrawn wr d) os).cell? (ad.add (p * 3)) = some (.int .i64 x.l) := fun d os => ((below_regrown wr d os).cell (p := ad.add (p * 3)) (by rw [add_block]; exact hadb)).trans c1
            have q3 : ∀ d os, (grow (redrawn wr d) os).cell? { block := (ad.add (p * 3)).block, off := (ad.add (p * 3)).off + 2 } = some (.int .i64 x.p) := fun d os => ((below_regrown wr d os).cell (p := ⟨(ad.add (p * 3)).block, (ad.add (p * 3)).off + 2, none⟩) (by rw [add_block]; exact hadb)).trans c3
            clear c1 c2 c3 HG ho2 hbd hb hh
            by_cases hl : x.l = (i : Int)
            · have bl : (x.l != (i : Int)) = false := by simpa using hl
              by_cases hp : x.p = prev
              · have bp : (x.p != prev) = false := by simpa using hp
                have HC3 := hide (show cChain st.ns i (-1) W = cChain st.ns i (p : Int) (W.drop (j + 1)) by rw [HC2.out]; simp [hl, hp])
                clear HC2 HC hl hp
                go_upto_region 14 with fail
                (refine wp_region_qb (by kernel_rfl) (by kernel_rfl) (fun kq => ?_); (try dsimp only [List.append]); (repeat (go_big_quiet_step ((fail)))); refine wpQuiet_nil ?_; intro wq hwq; have hbq := below_of_class hwq; clear hwq kq)
                (try clear k_0 k_f0 k_1 k_f1 k_2 k_f2 lt_k)
                have ho3 : wq.cell? (od.add j) = some (.int .i64 (p : Int)) := (hbq.cell (p := od.add j) (by rw [add_block]; exact hodb)).trans ho
                replace hbm := hbm.step hbq
                clear q1 q2 q3 hbq
                go_wp2
                go_roundw
                case rel => exact ⟨j + 1, p, by rw [Int.natCast_add]; rfl, rfl, by omega, hide HL2.out.symm, HC3, hbm⟩
                case measure => simp; omega
              · have bp : (x.p != prev) = true := by simpa using hp
                have hR := hide (show R = false by
                  have e : (x.p == prev) = false := by simpa using hp
                  rw [HR.out, HC2.out, e]; simp)
                clear HC2 HC hl hp
                go_upto_region 14 with fail
                (refine wp_region_qb (by kernel_rfl) (by kernel_rfl) (fun kq => ?_); (try dsimp only [List.append]); (repeat (go_big_quiet_step ((fail)))); refine wpQuiet_nil ?_; intro wq hwq; have hbq := below_of_class hwq; clear hwq kq)
                (try clear k_0 k_f0 k_1 k_f1 k_2 k_f2 lt_k)
                replace hbm := hbm.step hbq
                clear q1 q2 q3 hbq
                go_wp2
                go_ret
                exact ⟨ret_bool hR.out.symm, hb1.step hbm⟩
            · have bl : (x.l != (i : Int)) = true := by simpa using hl
              have hR := hide (show R = false by
                have e : (x.l == (i : Int)) = false := by simpa using hl
                rw [HR.out, HC2.out, e]; simp)
              clear HC2 HC hl
              go_upto_region 14 with fail
              (refine wp_region_qb (by kernel_rfl) (by kernel_rfl) (fun kq => ?_); (try dsimp only [List.append]); (repeat (go_big_quiet_step ((fail)))); refine wpQuiet_nil ?_; intro wq hwq; have hbq := below_of_class hwq; clear hwq kq)
              (try clear k_0 k_f0 k_1 k_f1 k_2 k_f2 lt_k)
              replace hbm := hbm.step hbq
              clear q1 q2 q3 hbq
              go_wp2
              go_ret
              exact ⟨ret_bool hR.out.symm, hb1.step hbm⟩
      · have bW : ((W.length : Int) != (M : Int)) = true := by simp; omega
        have hR := hide (show R = false by
          have e : (W.length == M) = false := by simpa using hWM
          rw [HR.out, e]; rfl)
        clear hWM HM HR
        go_wp2
        go_ret
        exact ⟨ret_bool hR.out.symm, hb1.step hbm⟩
    · have hml : m < st.ns.length := by omega
      have hmi : (m : Int) < (st.ns.length : Int) := by omega
      obtain ⟨ad, rfl, hadb, c1, c2, c3⟩ := (rA.step hbm).nd hml
      have HF := hide (show ((st.ns.take (m + 1)).filter (fun x => x.l == (i : Int))).length = ((st.ns.take m).filter (fun x => x.l == (i : Int))).length + (if st.ns[m].l = (i : Int) then 1 else 0) by
        rw [List.take_succ_eq_append_getElem hml, List.filter_append, List.length_append]
        by_cases hv5 : st.ns[m].l = (i : Int)
        · simp [hv5]
        · simp [hv5])
      have hcb : ((st.ns.take m).filter (fun x => x.l == (i : Int))).length ≤ 1000 := by
        have h5 := List.length_filter_le (fun x => x.l == (i : Int)) (st.ns.take m)
        rw [List.length_take] at h5; omega
      generalize ((st.ns.take m).filter (fun x => x.l == (i : Int))).length = cn at *
      generalize st.ns[m] = x at *
      have wc1 : IntKind.i64.wrap ((cn : Int) + 1) = (cn : Int) + 1 := IntWalk.i64_in _ (by omega)
      by_cases hv5 : x.l = (i : Int)
      · have bv : (x.l == (i : Int)) = true := by simpa using hv5
        have HF2 := hide (HF.out.trans (by rw [if_pos hv5]))
        clear hv5
        go_wp2
        go_roundw
        case rel => exact ⟨m + 1, by rw [Int.natCast_add]; rfl, by omega, by rw [HF2.out]; rfl, hbm⟩
        case measure => simp; omega
      · have bv : (x.l == (i : Int)) = false := by simpa using hv5
        have HF2 := hide (HF.out.trans (by rw [if_neg hv5]))
        clear hv5
        go_wp2
        go_roundw
        case rel => exact ⟨m + 1, by rw [Int.natCast_add]; rfl, by omega, by rw [HF2.out]; rfl, hbm⟩
        case measure => simp; omega
end Go.Proofs.Ythicpjfdljgfpaa
