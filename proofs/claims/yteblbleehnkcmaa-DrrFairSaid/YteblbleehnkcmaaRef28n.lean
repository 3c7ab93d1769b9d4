/- callboylaw28.left, and the plain law of DrrWorks. -/
import Derived.Test.YteblbleehnkcmaaLaw28b
namespace Go.Proofs.Yteblbleehnkcmaa
open Go.RowKit Go.Sort
set_option linter.unusedSimpArgs false
set_option linter.unusedVariables false

/-- what of an ID waits behind so many, and whether something does -/
def dLeft (ld : List Ld) (id went : Int) : Int × Bool :=
  if 0 ≤ went ∧ went < ((dWait ld id).xs.length : Nat) then ((dWait ld id).xs.getD went.toNat 0, true) else (0, false)
set_option maxRecDepth 100000 in
set_option maxHeartbeats 8000000 in
theorem law_left_any (A : Option Addr) (c : Nat) (ld : List Ld) (id went : Int) (w : World) (hl : ld.length ≤ 1000) (hx : ∀ x ∈ ld, x.xs.length ≤ 1000) (ha : Lds w w.heap.size A ld) :
    Calls Try.prog 28 #[.slice A ld.length c, .int .i64 id, .int .i64 went] w fun e w' => e = .returned (.tuple #[.int .i64 (dLeft ld id went).1, .bool (dLeft ld id went).2]) ∧ Below w.heap.size w w' := by
  have HX := hide hx
  clear hx
  generalize hR : dLeft ld id went = R
  go_enter Try.func28, Try.ntmps28
  go_wp2_with fail
  go_loopw [8] (fun i wr => ∃ k : Nat, k ≤ ld.length ∧ i = .int .i64 k ∧ (∀ x ∈ ld.take k, (x.id == id) = false) ∧ Below w.heap.size w wr) (fun i _ => ld.length - (intOf i).toNat)
  case atStart => exact ⟨0, Nat.zero_le _, rfl, by simp, by (repeat (first | with_reducible exact Below.refl _ _ | with_reducible assumption | with_reducible refine Below.drew ?_ | with_reducible refine Below.drewN ?_ _ | with_reducible refine Below.alloc1 ?_ _ | with_reducible refine Below.setCell1 ?_ (by first | omega | (simp; done) | (simp; omega)) _ | with_reducible refine Below.step ?_ (by with_reducible assumption)))⟩
  case round =>
    obtain ⟨k, hk, rfl, ht, hb⟩ := hrel
    have HT := hide ht
    clear ht
    by_cases hlt : k < ld.length
    · obtain ⟨ad, rfl, hadb, c1, c2⟩ := (ha.1.below hb).ld hlt
      by_cases hp : (ld[k].id == id) = true
      · have hr : dWait ld id = ld[k] := by
          have h1 := idxI_at (p := fun f : Ld => f.id == id) hlt HT.out hp
          rcases dWait_cases ld id with ⟨e, _⟩ | ⟨j, hj, e, e2⟩
          · rw [h1] at e; omega
          · rw [h1] at e
            have : k = j := by omega
            subst this; exact e2
        have hp2 : ld[k].id = id := by simpa using hp
        have hr0 := (ha.2.1 _ (List.getElem_mem hlt)).below hb
        have hxl := HX.out _ (List.getElem_mem hlt)
        unfold dLeft at hR
        rw [hr] at hR
        have HR := hide hR
        clear hr hR
        generalize ld[k] = x at *
        by_cases h1 : 0 ≤ went
        · obtain ⟨g, rfl⟩ : ∃ g : Nat, went = (g : Int) := ⟨went.toNat, by omega⟩
          by_cases h2 : g < x.xs.length
          · obtain ⟨xd, hxd, hxb, c4⟩ := Rd.in hr0 h2
            have hr := HR.out
            rw [if_pos ⟨h1, by omega⟩] at hr
            have e : x.xs.getD (g : Int).toNat 0 = x.xs[g] := by simp [h2]
            rw [e] at hr
            rw [hxd] at c2
            replace HR := hide hr
            have h3 : (g : Int) < (x.xs.length : Int) := by omega
            clear hr e
            generalize x.xs[g] = z at *
            go_wp2
            exact bodyPost_ret (v := .tuple #[.int .i64 z, .bool true]) (by simp only [results, Try.results28]; go_simp) rfl ⟨by rw [← HR.out], by (repeat (first | with_reducible exact Below.refl _ _ | with_reducible assumption | with_reducible refine Below.drew ?_ | with_reducible refine Below.drewN ?_ _ | with_reducible refine Below.alloc1 ?_ _ | with_reducible refine Below.setCell1 ?_ (by first | omega | (simp; done) | (simp; omega)) _ | with_reducible refine Below.step ?_ (by with_reducible assumption)))⟩
          · have hr := HR.out
            rw [if_neg (by omega)] at hr
            replace HR := hide hr
            have h3 : (x.xs.length : Int) ≤ (g : Int) := by omega
            clear hr
            go_wp2
            exact bodyPost_ret (v := .tuple #[.int .i64 0, .bool false]) (by simp only [results, Try.results28]; go_simp) rfl ⟨by rw [← HR.out], by (repeat (first | with_reducible exact Below.refl _ _ | with_reducible assumption | with_reducible refine Below.drew ?_ | with_reducible refine Below.drewN ?_ _ | with_reducible refine Below.alloc1 ?_ _ | with_reducible refine Below.setCell1 ?_ (by first | omega | (simp; done) | (simp; omega)) _ | with_reducible refine Below.step ?_ (by with_reducible assumption)))⟩
        · have hr := HR.out
          rw [if_neg (by omega)] at hr
          replace HR := hide hr
          have h3 : went < 0 := by omega
          have h4 : decide (0 ≤ went) = false := by simpa using h1
          clear hr h1
          go_wp2
          exact bodyPost_ret (v := .tuple #[.int .i64 0, .bool false]) (by simp only [results, Try.results28]; go_simp) rfl ⟨by rw [← HR.out], by (repeat (first | with_reducible exact Below.refl _ _ | with_reducible assumption | with_reducible refine Below.drew ?_ | with_reducible refine Below.drewN ?_ _ | with_reducible refine Below.alloc1 ?_ _ | with_reducible refine Below.setCell1 ?_ (by first | omega | (simp; done) | (simp; omega)) _ | with_reducible refine Below.step ?_ (by with_reducible assumption)))⟩
      · have hp' : (ld[k].id == id) = false := by simpa using hp
        have hp2 : ¬ ld[k].id = id := by simpa using hp
        have hn := none_take hlt HT.out hp'
        have HR := hide hR
        clear hR
        go_wp2
        go_roundw
        case rel => exact ⟨k + 1, by omega, by go_num, hn, by (repeat (first | with_reducible exact Below.refl _ _ | with_reducible assumption | with_reducible refine Below.drew ?_ | with_reducible refine Below.drewN ?_ _ | with_reducible refine Below.alloc1 ?_ _ | with_reducible refine Below.setCell1 ?_ (by first | omega | (simp; done) | (simp; omega)) _ | with_reducible refine Below.step ?_ (by with_reducible assumption)))⟩
        case measure => simp [intOf]; omega
    · have hr : dWait ld id = ⟨0, none, 0, []⟩ := by
        have h1 := idxI_none (p := fun f : Ld => f.id == id) (l := ld) (by have := HT.out; rwa [List.take_of_length_le (by omega)] at this)
        rcases dWait_cases ld id with ⟨_, e⟩ | ⟨j, hj, e, e2⟩
        · exact e
        · rw [h1] at e; omega
      unfold dLeft at hR
      rw [hr, if_neg (by simp)] at hR
      have HR := hide hR
      clear hr hR
      go_wp2
      exact bodyPost_ret (v := .tuple #[.int .i64 0, .bool false]) (by simp only [results, Try.results28]; go_simp) rfl ⟨by rw [← HR.out], by (repeat (first | with_reducible exact Below.refl _ _ | with_reducible assumption | with_reducible refine Below.drew ?_ | with_reducible refine Below.drewN ?_ _ | with_reducible refine Below.alloc1 ?_ _ | with_reducible refine Below.setCell1 ?_ (by first | omega | (simp; done) | (simp; omega)) _ | with_reducible refine Below.step ?_ (by with_reducible assumption)))⟩
end Go.Proofs.Yteblbleehnkcmaa
