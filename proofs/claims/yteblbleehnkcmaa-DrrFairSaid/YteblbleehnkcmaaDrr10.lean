/- Package drr: Cost. -/
import Derived.Test.YteblbleehnkcmaaDrr9
namespace Go.Proofs.Yteblbleehnkcmaa
open Go.RowKit Go.Sort
set_option linter.unusedSimpArgs false
set_option linter.unusedVariables false

def costOne (n s : Int) : Int := n + min (max s 0) (1099511627776 - n)
def costIn (n : Int) (xs : List Int) : Int := xs.foldl costOne n
def costAll (n : Int) (l : List (Ld × Int)) : Int := l.foldl (fun n p => costIn n (p.1.xs.take p.2.toNat)) n
def dCost (l : List Ld) (s : List Int) : Int := costAll 0 (l.zip s)
theorem costOne_in {n : Int} (s : Int) (h : 0 ≤ n ∧ n ≤ 1099511627776) : 0 ≤ costOne n s ∧ costOne n s ≤ 1099511627776 := by unfold costOne; omega
theorem costIn_snoc {n : Int} {xs : List Int} {k : Nat} (hk : k < xs.length) : costIn n (xs.take (k + 1)) = costOne (costIn n (xs.take k)) xs[k] := by
  unfold costIn; rw [take_snocL xs k hk, List.foldl_append]; rfl
theorem costAll_snoc {n : Int} {l : List (Ld × Int)} {k : Nat} (hk : k < l.length) : costAll n (l.take (k + 1)) = costIn (costAll n (l.take k)) (l[k].1.xs.take l[k].2.toNat) := by
  unfold costAll; rw [take_snocL l k hk, List.foldl_append]; rfl
set_option maxRecDepth 100000 in
set_option maxHeartbeats 4000000 in
theorem drr_Cost_any (A B : Option Addr) (c d : Nat) (l : List Ld) (s : List Int) (w : World) (hl : l.length ≤ 1000) (hs : s.length ≤ 1000) (hx : ∀ x ∈ l, x.xs.length ≤ 1000) (ha : Lds w w.heap.size A l) (hb0 : Rd w w.heap.size B (ints s)) :
    Calls Try.prog 16 #[.slice A l.length c, .slice B s.length d] w fun e w' => e = .returned (.int .i64 (dCost l s)) ∧ Below w.heap.size w w' := by
  have hx := hide hx
  obtain ⟨m, hm⟩ : ∃ m, m = (l.zip s).length := ⟨_, rfl⟩
  have hm2 : (s.length < l.length ∧ m = s.length) ∨ (l.length ≤ s.length ∧ m = l.length) := by rw [hm, List.length_zip]; omega
  have hS : Hid (∀ k (h1 : k < l.length) (h2 : k < s.length), costAll 0 ((l.zip s).take (k + 1)) = costIn (costAll 0 ((l.zip s).take k)) (l[k].xs.take s[k].toNat)) := fun k h1 h2 => by
    rw [costAll_snoc (k := k) (by rw [List.length_zip]; omega)]; simp
  have hE := hide (show costAll 0 ((l.zip s).take m) = dCost l s from by unfold dCost; rw [List.take_of_length_le (by omega)])
  clear hm
  go_enter Try.func16, Try.ntmps16
  rcases hm2 with ⟨h1, h2⟩ | ⟨h1, h2⟩
  all_goals
    go_wp2
    go_loopw [14, 5] (fun i n wr => ∃ k : Nat, k ≤ m ∧ i = .int .i64 k ∧ (∃ v, n = .int .i64 v ∧ v = costAll 0 ((l.zip s).take k) ∧ 0 ≤ v ∧ v ≤ 1099511627776) ∧ Below w.heap.size w wr) (fun i _ _ => m - (intOf i).toNat)
    case atStart => exact ⟨0, Nat.zero_le _, rfl, ⟨0, rfl, by simp [costAll], by omega, by omega⟩, by (repeat (first | with_reducible exact Below.refl _ _ | with_reducible assumption | with_reducible refine Below.drew ?_ | with_reducible refine Below.drewN ?_ _ | with_reducible refine Below.alloc1 ?_ _ | with_reducible refine Below.setCell1 ?_ (by first | omega | (simp; done) | (simp; omega)) _ | with_reducible refine Below.step ?_ (by with_reducible assumption)))⟩
    case round =>
      obtain ⟨k, hk, rfl, ⟨v, rfl, hv, hv0, hv1⟩, hb⟩ := hrel
      have HV := hide hv
      clear hv
      by_cases hlt : k < m
      · have hkl : k < l.length := by omega
        have hks : k < s.length := by omega
        obtain ⟨ad, rfl, hadb, c1, c2⟩ := (ha.1.below hb).ld hkl
        obtain ⟨bd, rfl, hbdb, c3⟩ := Rd.in (hb0.below hb) hks
        have hr0 := ha.2.1 _ (List.getElem_mem hkl)
        have hxc := ha.2.2 _ (List.getElem_mem hkl)
        have hxl := hx.out _ (List.getElem_mem hkl)
        have hT := hS.out k hkl hks
        rw [← HV.out] at hT
        replace hT := hide hT
        generalize l[k] = x at *
        generalize s[k] = y at *
        go_wp2_with fail
        obtain ⟨mn, hmn⟩ : ∃ mn : Int, (if (x.xs.length : Int) < y then (x.xs.length : Int) else y) = mn := ⟨_, rfl⟩
        obtain ⟨q, hq⟩ : ∃ q : Nat, (if 0 < mn then mn else 0) = (q : Int) := ⟨mn.toNat, by split <;> omega⟩
        have hqy : q = min y.toNat x.xs.length := by split at hmn <;> split at hq <;> omega
        have hqc : (q : Int) ≤ (x.c : Int) := by omega
        have hqx : q ≤ x.xs.length := by omega
        have hQ := hide hqy
        clear hqy
        go_quiet (fail)
        go_wp2
        go_loopw [36, 5] (fun i n wr' => ∃ k2 : Nat, k2 ≤ q ∧ i = .int .i64 k2 ∧ (∃ u, n = .int .i64 u ∧ u = costIn v (x.xs.take k2) ∧ 0 ≤ u ∧ u ≤ 1099511627776) ∧ Below w.heap.size w wr') (fun i _ _ => q - (intOf i).toNat)
        case atStart => exact ⟨0, Nat.zero_le _, rfl, ⟨v, rfl, by simp [costIn], hv0, hv1⟩, by (repeat (first | with_reducible exact Below.refl _ _ | with_reducible assumption | with_reducible refine Below.drew ?_ | with_reducible refine Below.drewN ?_ _ | with_reducible refine Below.alloc1 ?_ _ | with_reducible refine Below.setCell1 ?_ (by first | omega | (simp; done) | (simp; omega)) _ | with_reducible refine Below.step ?_ (by with_reducible assumption)))⟩
        case round =>
          obtain ⟨k2, hk2, rfl, ⟨u, rfl, hu, hu0, hu1⟩, hb2⟩ := hrel
          have HU := hide hu
          clear hu
          by_cases hlt2 : k2 < q
          · have hkx : k2 < x.xs.length := by omega
            obtain ⟨xd, hxd, hxb, c4⟩ := Rd.in (hr0.below hb2) hkx
            have hU := costIn_snoc (n := v) hkx
            rw [← HU.out] at hU
            replace hU := hide hU
            rw [hxd]
            generalize x.xs[k2] = z at *
            obtain ⟨mx, hmx⟩ : ∃ mx : Int, (if z < 0 then 0 else z) = mx := ⟨_, rfl⟩
            have hw1 : IntKind.i64.wrap (1099511627776 - u) = 1099511627776 - u := IntWalk.i64_in _ (by omega)
            go_wp2_with fail
            have hz : (u + if 1099511627776 - u < mx then 1099511627776 - u else mx) = costOne u z := by
              subst hmx; unfold costOne; repeat split <;> omega
            rw [hz]
            exact ⟨⟨k2 + 1, by omega, by go_num, ⟨_, rfl, hU.out.symm, costOne_in z ⟨hu0, hu1⟩⟩, by (repeat (first | with_reducible exact Below.refl _ _ | with_reducible assumption | with_reducible refine Below.drew ?_ | with_reducible refine Below.drewN ?_ _ | with_reducible refine Below.alloc1 ?_ _ | with_reducible refine Below.setCell1 ?_ (by first | omega | (simp; done) | (simp; omega)) _ | with_reducible refine Below.step ?_ (by with_reducible assumption)))⟩, by simp [intOf]; omega⟩
          · have hq1 : k2 = q := by omega
            subst hq1
            go_wp2
            have hT2 : costIn v (x.xs.take k2) = costAll 0 ((l.zip s).take (k + 1)) := by
              rw [hT.out]
              have := hQ.out
              congr 1
              rcases Nat.le_total y.toNat x.xs.length with h9 | h9
              · rw [this, Nat.min_eq_left h9]
              · rw [this, Nat.min_eq_right h9, List.take_length, List.take_of_length_le h9]
            exact ⟨⟨k + 1, by omega, by go_num, ⟨_, rfl, by rw [HU.out, hT2], hu0, hu1⟩, by (repeat (first | with_reducible exact Below.refl _ _ | with_reducible assumption | with_reducible refine Below.drew ?_ | with_reducible refine Below.drewN ?_ _ | with_reducible refine Below.alloc1 ?_ _ | with_reducible refine Below.setCell1 ?_ (by first | omega | (simp; done) | (simp; omega)) _ | with_reducible refine Below.step ?_ (by with_reducible assumption)))⟩, by simp [intOf]; omega⟩
      · have hk1 : k = m := by omega
        subst hk1
        go_wp2
        go_ret
        exact ⟨ret_int (by rw [HV.out]; exact hE.out), by (repeat (first | with_reducible exact Below.refl _ _ | with_reducible assumption | with_reducible refine Below.drew ?_ | with_reducible refine Below.drewN ?_ _ | with_reducible refine Below.alloc1 ?_ _ | with_reducible refine Below.setCell1 ?_ (by first | omega | (simp; done) | (simp; omega)) _ | with_reducible refine Below.step ?_ (by with_reducible assumption)))⟩
end Go.Proofs.Yteblbleehnkcmaa
