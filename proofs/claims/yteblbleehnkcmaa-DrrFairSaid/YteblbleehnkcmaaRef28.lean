/- callboyref28: in, place, Check. -/
import Derived.Test.YteblbleehnkcmaaDrr14
namespace Go.Proofs.Yteblbleehnkcmaa
open Go.RowKit Go.Sort
set_option linter.unusedSimpArgs false
set_option linter.unusedVariables false

theorem ref_in_any (n a b : Int) (w : World) : Calls Try.prog 39 #[.int .i64 n, .int .i64 a, .int .i64 b] w fun e w' => e = .returned (.bool (dIn n a b)) ∧ w = w' := by
  unfold dIn
  by_cases h1 : a ≤ n
  · by_cases h2 : n ≤ b
    · go_enter Try.func39, Try.ntmps39
      go_wp2
      go_ret
      exact ⟨by simp [h1, h2], rfl⟩
    · have h2' : b < n := by omega
      go_enter Try.func39, Try.ntmps39
      go_wp2
      go_ret
      exact ⟨by simp [h1, h2], rfl⟩
  · have h1' : n < a := by omega
    have h1'' : decide (a ≤ n) = false := by simp; omega
    go_enter Try.func39, Try.ntmps39
    go_wp2
    go_ret
    exact ⟨by simp [h1], rfl⟩
abbrev rsV (A : Option Addr) (n c : Nat) (at_ : Int) (mid : Bool) : Value := .agg #[.slice A n c, .int .i64 at_, .bool mid]
set_option maxRecDepth 100000 in
set_option maxHeartbeats 4000000 in
theorem ref_place_any (A : Option Addr) (c : Nat) (l : List Fl) (at_ : Int) (mid : Bool) (id : Int) (w : World) (hl : l.length ≤ 1000) (ha : Rd w w.heap.size A (flR l)) :
    Calls Try.prog 40 #[rsV A l.length c at_ mid, .int .i64 id] w fun e w' => e = .returned (.int .i64 (dFind l id)) ∧ Below w.heap.size w w' := by
  go_enter Try.func40, Try.ntmps40
  go_wp2_with fail
  generalize hV : World.alloc w _ = w1
  have hb1 : Below w.heap.size w w1 := by subst hV; (repeat (first | with_reducible exact Below.refl _ _ | with_reducible assumption | with_reducible refine Below.drew ?_ | with_reducible refine Below.drewN ?_ _ | with_reducible refine Below.alloc1 ?_ _ | with_reducible refine Below.setCell1 ?_ (by first | omega | (simp; done) | (simp; omega)) _ | with_reducible refine Below.step ?_ (by with_reducible assumption)))
  have k0 : Bk w1 w.heap.size 24 (dsC A l.length c at_ mid) := by subst hV; (repeat (first | with_reducible exact Bk.new' _ _ _ _ (by simp; done) | with_reducible assumption | with_reducible refine Bk.alloc ?_ _ | with_reducible refine Bk.drew ?_ | with_reducible refine Bk.drewN ?_ _ | with_reducible refine Bk.step ?_ (by with_reducible assumption) | with_reducible refine Bk.far ?_ (by first | omega | (simp; done) | (simp; omega)) _))
  clear hV
  go_loopw [5] (fun i wr => ∃ k : Nat, k ≤ l.length ∧ i = .int .i64 k ∧ (∀ x ∈ l.take k, (x.id == id) = false) ∧ Bk wr w.heap.size 24 (dsC A l.length c at_ mid) ∧ Below w.heap.size w wr) (fun i _ => l.length - (intOf i).toNat)
  case atStart => exact ⟨0, Nat.zero_le _, rfl, by simp, k0, hb1⟩
  case round =>
    clear k0 hb1
    obtain ⟨k, hk, rfl, ht, j0, hb⟩ := hrel
    have HT := hide ht
    clear ht
    have j0_0 := j0.cell 0; have j0_f0 := j0.frozen 0; have j0_1 := j0.cell 1; have j0_f1 := j0.frozen 1; have j0_2 := j0.cell 2; have j0_f2 := j0.frozen 2; simp only [List.set_cons_zero, List.set_cons_succ, List.getElem?_cons_zero, List.getElem?_cons_succ] at j0_0 j0_1 j0_2; have lt_j0 := j0.lt
    by_cases hlt : k < l.length
    · obtain ⟨ad, rfl, hadb, c1, c2, c3⟩ := (ha.below hb).fl hlt
      by_cases hp : (l[k].id == id) = true
      · have hr := idxI_at (p := fun f : Fl => f.id == id) hlt HT.out hp
        have hp2 : l[k].id = id := by simpa using hp
        go_wp2
        go_ret
        exact ⟨ret_int hr.symm, by (repeat (first | with_reducible exact Below.refl _ _ | with_reducible assumption | with_reducible refine Below.drew ?_ | with_reducible refine Below.drewN ?_ _ | with_reducible refine Below.alloc1 ?_ _ | with_reducible refine Below.setCell1 ?_ (by first | omega | (simp; done) | (simp; omega)) _ | with_reducible refine Below.step ?_ (by with_reducible assumption)))⟩
      · have hp' : (l[k].id == id) = false := by simpa using hp
        have hp2 : ¬ l[k].id = id := by simpa using hp
        have hn := none_take hlt HT.out hp'
        go_wp2
        go_roundw
        case rel => exact ⟨k + 1, by omega, by go_num, hn, j0, by (repeat (first | with_reducible exact Below.refl _ _ | with_reducible assumption | with_reducible refine Below.drew ?_ | with_reducible refine Below.drewN ?_ _ | with_reducible refine Below.alloc1 ?_ _ | with_reducible refine Below.setCell1 ?_ (by first | omega | (simp; done) | (simp; omega)) _ | with_reducible refine Below.step ?_ (by with_reducible assumption)))⟩
        case measure => simp [intOf]; omega
    · have hr := idxI_none (p := fun f : Fl => f.id == id) (l := l) (by have := HT.out; rwa [List.take_of_length_le (by omega)] at this)
      go_wp2
      go_ret
      exact ⟨ret_int hr.symm, by (repeat (first | with_reducible exact Below.refl _ _ | with_reducible assumption | with_reducible refine Below.drew ?_ | with_reducible refine Below.drewN ?_ _ | with_reducible refine Below.alloc1 ?_ _ | with_reducible refine Below.setCell1 ?_ (by first | omega | (simp; done) | (simp; omega)) _ | with_reducible refine Below.step ?_ (by with_reducible assumption)))⟩
end Go.Proofs.Yteblbleehnkcmaa
