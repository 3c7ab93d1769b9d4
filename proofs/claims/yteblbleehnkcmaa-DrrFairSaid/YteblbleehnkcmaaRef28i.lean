/- callboyref28: Cost. -/
import Derived.Test.YteblbleehnkcmaaRef28h
namespace Go.Proofs.Yteblbleehnkcmaa
open Go.RowKit Go.Sort
set_option linter.unusedSimpArgs false
set_option linter.unusedVariables false

set_option maxRecDepth 100000 in
set_option maxHeartbeats 8000000 in
theorem ref_Cost_any (A B : Option Addr) (c d : Nat) (l : List Ld) (s : List Int) (w : World) (hl : l.length ≤ 1000) (hs : s.length ≤ 1000) (hx : ∀ x ∈ l, x.xs.length ≤ 1000) (ha : Lds w w.heap.size A l) (hb0 : Rd w w.heap.size B (ints s)) :
    Calls Try.prog 17 #[.slice A l.length c, .slice B s.length d] w fun e w' => e = .returned (.int .i64 (dCost l s)) ∧ Below w.heap.size w w' := by
  have hx := hide hx
  obtain ⟨m, hm⟩ : ∃ m, m = (l.zip s).length := ⟨_, rfl⟩
  have hm2 : m ≤ l.length ∧ m ≤ s.length ∧ (m = l.length ∨ m = s.length) := by rw [hm, List.length_zip]; omega
  have hS : Hid (∀ k (h1 : k < l.length) (h2 : k < s.length), costAll 0 ((l.zip s).take (k + 1)) = costIn (costAll 0 ((l.zip s).take k)) (l[k].xs.take s[k].toNat)) := fun k h1 h2 => by
    rw [costAll_snoc (k := k) (by rw [List.length_zip]; omega)]; simp
  have hE := hide (show costAll 0 ((l.zip s).take m) = dCost l s from by unfold dCost; rw [List.take_of_length_le (by omega)])
  clear hm
  generalize dCost l s = R at *
  go_enter Try.func17, Try.ntmps17
  go_wp2
  go_loopw [5, 6] (fun n i wr => ∃ k : Nat, k ≤ m ∧ i = .int .i64 k ∧ (∃ v, n = .int .i64 v ∧ Hid (v = costAll 0 ((l.zip s).take k)) ∧ 0 ≤ v ∧ v ≤ 1099511627776) ∧ Below w.heap.size w wr) (fun _ i _ => m - (intOf i).toNat)
  case atStart => exact ⟨0, Nat.zero_le _, rfl, ⟨0, rfl, by unfold Hid; simp [costAll], by omega, by omega⟩, by (repeat (first | with_reducible exact Below.refl _ _ | with_reducible assumption | with_reducible refine Below.drew ?_ | with_reducible refine Below.drewN ?_ _ | with_reducible refine Below.alloc1 ?_ _ | with_reducible refine Below.setCell1 ?_ (by first | omega | (simp; done) | (simp; omega)) _ | with_reducible refine Below.step ?_ (by with_reducible assumption)))⟩
  case round =>
    obtain ⟨k, hk, rfl, ⟨v, rfl, HV, hv0, hv1⟩, hb⟩ := hrel
    by_cases hlt : k < m
    · have hkl : k < l.length := by omega
      have hks : k < s.length := by omega
      obtain ⟨ad, rfl, hadb, c1, c2⟩ := ha.1.ld hkl
      obtain ⟨bd, rfl, hbdb, c3⟩ := Rd.in hb0 hks
      have c2w := fun w' (h : Below w.heap.size w w') => (h.cell (p := ⟨(ad.add (k * 2)).block, (ad.add (k * 2)).off + 1, none⟩) (by dsimp only; rw [add_block]; exact hadb)).trans c2
      have c3w := fun w' (h : Below w.heap.size w w') => (h.cell (p := bd.add k) (by rw [add_block]; exact hbdb)).trans c3
      have hr0 := ha.2.1 _ (List.getElem_mem hkl)
      have hxl := hx.out _ (List.getElem_mem hkl)
      have hT := hS.out k hkl hks
      rw [← HV.out] at hT
      replace hT := hide hT
      generalize l[k] = x at *
      generalize s[k] = y at *
      obtain ⟨q, hq⟩ : ∃ q : Nat, q = min y.toNat x.xs.length := ⟨_, rfl⟩
      have hq2 : q ≤ x.xs.length ∧ ((q : Int) ≤ y ∨ q = 0) ∧ (q = x.xs.length ∨ y ≤ (q : Int)) := by omega
      have hQ := hide hq
      clear hq hE hS
      go_wp2
      go_loopw [5, 7] (fun n j wr' => ∃ k2 : Nat, k2 ≤ q ∧ j = .int .i64 k2 ∧ (∃ u, n = .int .i64 u ∧ Hid (u = costIn v (x.xs.take k2)) ∧ 0 ≤ u ∧ u ≤ 1099511627776) ∧ Below w.heap.size w wr') (fun _ j _ => q - (intOf j).toNat)
      case atStart => exact ⟨0, Nat.zero_le _, rfl, ⟨v, rfl, by unfold Hid; simp [costIn], hv0, hv1⟩, by (repeat (first | with_reducible exact Below.refl _ _ | with_reducible assumption | with_reducible refine Below.drew ?_ | with_reducible refine Below.drewN ?_ _ | with_reducible refine Below.alloc1 ?_ _ | with_reducible refine Below.setCell1 ?_ (by first | omega | (simp; done) | (simp; omega)) _ | with_reducible refine Below.step ?_ (by with_reducible assumption)))⟩
      case round =>
        obtain ⟨k2, hk2, rfl, ⟨u, rfl, HU, hu0, hu1⟩, hb2⟩ := hrel
        have c2v := c2w _ hb2
        have c3v := c3w _ hb2
        by_cases hlt2 : k2 < q
        · have hkx : k2 < x.xs.length := by omega
          have hky : (k2 : Int) < y := by omega
          obtain ⟨xd, hxd, hxb, c4⟩ := Rd.in (hr0.below hb2) hkx
          have hU := costIn_snoc (n := v) hkx
          rw [← HU.out] at hU
          replace hU := hide hU
          rw [hxd] at c2v
          generalize x.xs[k2] = z at *
          obtain ⟨mx, hmx⟩ : ∃ mx : Int, (if 0 < z then z else 0) = mx := ⟨_, rfl⟩
          obtain ⟨mn, hmn⟩ : ∃ mn : Int, (if mx < 1099511627776 - u then mx else 1099511627776 - u) = mn := ⟨_, rfl⟩
          have hw1 : IntKind.i64.wrap (1099511627776 - u) = 1099511627776 - u := IntWalk.i64_in _ (by omega)
          have hz : u + mn = costOne u z := by
            subst hmn; subst hmx; unfold costOne; repeat split <;> omega
          have hz2 := costOne_in z ⟨hu0, hu1⟩
          have hw2 : IntKind.i64.wrap (u + mn) = u + mn := IntWalk.i64_in _ (by omega)
          have HZ := hide hz
          rw [← hz] at hz2
          clear hz
          go_wp2
          exact ⟨⟨k2 + 1, by omega, by go_num, ⟨_, rfl, by unfold Hid; rw [hU.out, HZ.out], hz2⟩, by (repeat (first | with_reducible exact Below.refl _ _ | with_reducible assumption | with_reducible refine Below.drew ?_ | with_reducible refine Below.drewN ?_ _ | with_reducible refine Below.alloc1 ?_ _ | with_reducible refine Below.setCell1 ?_ (by first | omega | (simp; done) | (simp; omega)) _ | with_reducible refine Below.step ?_ (by with_reducible assumption)))⟩, by simp [intOf]; omega⟩
        · have hq1 : k2 = q := by omega
          subst hq1
          have hfin : Hid (costIn v (x.xs.take k2) = costAll 0 ((l.zip s).take (k + 1))) := by
            unfold Hid
            rw [hT.out]
            have := hQ.out
            congr 1
            rcases Nat.le_total y.toNat x.xs.length with h9 | h9
            · rw [this, Nat.min_eq_left h9]
            · rw [this, Nat.min_eq_right h9, List.take_length, List.take_of_length_le h9]
          by_cases h9 : k2 < x.xs.length
          · have h10 : y ≤ (k2 : Int) := by omega
            go_wp2
            exact ⟨⟨k + 1, by omega, by go_num, ⟨_, rfl, by unfold Hid; rw [HU.out, hfin.out], hu0, hu1⟩, by (repeat (first | with_reducible exact Below.refl _ _ | with_reducible assumption | with_reducible refine Below.drew ?_ | with_reducible refine Below.drewN ?_ _ | with_reducible refine Below.alloc1 ?_ _ | with_reducible refine Below.setCell1 ?_ (by first | omega | (simp; done) | (simp; omega)) _ | with_reducible refine Below.step ?_ (by with_reducible assumption)))⟩, by simp [intOf]; omega⟩
          · have h10 : (x.xs.length : Int) ≤ (k2 : Int) := by omega
            have h11 : decide ((k2 : Int) < (x.xs.length : Int)) = false := by simp; omega
            go_wp2
            exact ⟨⟨k + 1, by omega, by go_num, ⟨_, rfl, by unfold Hid; rw [HU.out, hfin.out], hu0, hu1⟩, by (repeat (first | with_reducible exact Below.refl _ _ | with_reducible assumption | with_reducible refine Below.drew ?_ | with_reducible refine Below.drewN ?_ _ | with_reducible refine Below.alloc1 ?_ _ | with_reducible refine Below.setCell1 ?_ (by first | omega | (simp; done) | (simp; omega)) _ | with_reducible refine Below.step ?_ (by with_reducible assumption)))⟩, by simp [intOf]; omega⟩
    · have hk1 : k = m := by omega
      subst hk1
      by_cases h9 : k < l.length
      · have h10 : (s.length : Int) ≤ (k : Int) := by omega
        go_wp2
        go_ret
        exact ⟨ret_int (by rw [HV.out]; exact hE.out), by (repeat (first | with_reducible exact Below.refl _ _ | with_reducible assumption | with_reducible refine Below.drew ?_ | with_reducible refine Below.drewN ?_ _ | with_reducible refine Below.alloc1 ?_ _ | with_reducible refine Below.setCell1 ?_ (by first | omega | (simp; done) | (simp; omega)) _ | with_reducible refine Below.step ?_ (by with_reducible assumption)))⟩
      · have h10 : (l.length : Int) ≤ (k : Int) := by omega
        have h11 : decide ((k : Int) < (l.length : Int)) = false := by simp; omega
        go_wp2
        go_ret
        exact ⟨ret_int (by rw [HV.out]; exact hE.out), by (repeat (first | with_reducible exact Below.refl _ _ | with_reducible assumption | with_reducible refine Below.drew ?_ | with_reducible refine Below.drewN ?_ _ | with_reducible refine Below.alloc1 ?_ _ | with_reducible refine Below.setCell1 ?_ (by first | omega | (simp; done) | (simp; omega)) _ | with_reducible refine Below.step ?_ (by with_reducible assumption)))⟩
end Go.Proofs.Yteblbleehnkcmaa
