/- Package callboyref03: place, with, Take, Give, Set, Get. -/
import Derived.Test.YtnmpighdkdffbaaRef03
namespace Go.Proofs.Ytnmpighdkdffbaa
open Go.RowKit Go.Sort
set_option linter.unusedSimpArgs false
set_option linter.unusedVariables false

def rPlace (l : List Cl) (h : Int) : Int := if (pFind l h).2 = true then (pFind l h).1 else -1
theorem rPlace_at {l : List Cl} {h : Int} {k : Nat} (hk : k < l.length) (h64 : l.length ≤ 64) (hg : 0 ≤ l[k].gen) (hl : l[k].live = true) (e : l[k].gen * 64 + k = h) : rPlace l h = k := by
  unfold rPlace; rw [← e, find_at hk h64 hg hl, if_pos rfl]
theorem rPlace_no {l : List Cl} {h : Int} (hn : ∀ k, (hk : k < l.length) → l[k].live = true → l[k].gen * 64 + k ≠ h) : rPlace l h = -1 := by
  unfold rPlace
  rw [if_neg]
  intro hf
  obtain ⟨q, hq, _, h2, h3, _⟩ := find_ok hf
  exact hn q hq h2 h3
set_option maxRecDepth 100000 in
set_option maxHeartbeats 8000000 in
theorem rplace_any (A B : Option Addr) (c d : Nat) (l : List Cl) (m : Nat) (h : Int) (w : World) (hl : l.length ≤ 64) (hg : ∀ x ∈ l, 0 ≤ x.gen ∧ x.gen ≤ 1048576) (ha : Rd w w.heap.size A (cls l)) :
    Calls Try.prog 36 #[stV A l.length c B m d, .int .i64 h] w fun e w' => e = .returned (.int .i64 (rPlace l h)) ∧ Below w.heap.size w w' := by
  have HG := hide hg
  clear hg
  go_enter Try.func36, Try.ntmps36
  go_wp2_with fail
  generalize hV : World.alloc w _ = w1
  have hb1 : Below w.heap.size w w1 := by subst hV; (repeat (first | with_reducible exact Below.refl _ _ | with_reducible assumption | with_reducible refine Below.drew ?_ | with_reducible refine Below.drewN ?_ _ | with_reducible refine Below.alloc1 ?_ _ | with_reducible refine Below.setCell1 ?_ (by first | omega | (simp; done) | (simp; omega)) _ | with_reducible refine Below.step ?_ (by with_reducible assumption)))
  have k0 : Bk w1 w.heap.size 25 (stC A l.length c B m d) := by subst hV; (repeat (first | with_reducible exact Bk.new' _ _ _ _ (by simp; done) | with_reducible assumption | with_reducible refine Bk.alloc ?_ _ | with_reducible refine Bk.drew ?_ | with_reducible refine Bk.drewN ?_ _ | with_reducible refine Bk.step ?_ (by with_reducible assumption) | with_reducible refine Bk.far ?_ (by first | omega | (simp; done) | (simp; omega)) _))
  clear hV
  go_loopw [5] (fun i wr => ∃ k : Nat, k ≤ l.length ∧ i = .int .i64 k ∧ (∀ j, (hj : j < l.length) → j < k → l[j].live = true → l[j].gen * 64 + j ≠ h) ∧ Bk wr w.heap.size 25 (stC A l.length c B m d) ∧ Below w.heap.size w wr) (fun i _ => l.length - (intOf i).toNat)
  case atStart => exact ⟨0, Nat.zero_le _, rfl, fun j _ h => absurd h (Nat.not_lt_zero _), k0, hb1⟩
  case round =>
    clear k0 hb1
    obtain ⟨k, hk, rfl, ht, j0, hbr⟩ := hrel
    have HT := hide ht
    clear ht
    have j0_0 := j0.cell 0; have j0_f0 := j0.frozen 0; have j0_1 := j0.cell 1; have j0_f1 := j0.frozen 1; simp only [List.set_cons_zero, List.set_cons_succ, List.getElem?_cons_zero, List.getElem?_cons_succ] at j0_0 j0_1; have lt_j0 := j0.lt
    by_cases hlt : k < l.length
    · obtain ⟨ad, rfl, hadb, c1, c2, c3⟩ := (ha.below hbr).cl hlt
      have hgk := HG.out _ (List.getElem_mem hlt)
      have HA := hide (fun hlv e => rPlace_at (h := h) hlt hl hgk.1 hlv e)
      have HN := hide (fun (hx : l[k].live = true → l[k].gen * 64 + (k : Int) ≠ h) => show ∀ j, (hj : j < l.length) → j < k + 1 → l[j].live = true → l[j].gen * 64 + j ≠ h from fun j hj hjk hlv => by
        rcases Nat.lt_succ_iff_lt_or_eq.1 hjk with h9 | rfl
        · exact HT.out j hj h9 hlv
        · exact hx hlv)
      clear HT
      generalize l[k] = x at *
      obtain ⟨g, lv, v⟩ := x
      simp only at c1 c2 c3 hgk
      cases lv with
      | false =>
        have hN := hide (HN.out (by simp))
        clear HN HA
        go_wp2
        go_roundw
        case rel => exact ⟨k + 1, by omega, by go_num, hN.out, j0, hbr⟩
        case measure => simp [intOf]; omega
      | true =>
        by_cases he : g * 64 + (k : Int) = h
        · have hr := HA.out rfl he
          have d1 : (64 * g + (k : Int) == h) = true := by rw [beq_iff_eq]; omega
          clear HN HA
          go_wp2
          go_ret
          first | exact ⟨ret_int hr.symm, by (repeat (first | with_reducible exact Below.refl _ _ | with_reducible assumption | with_reducible refine Below.drew ?_ | with_reducible refine Below.drewN ?_ _ | with_reducible refine Below.alloc1 ?_ _ | with_reducible refine Below.setCell1 ?_ (by first | omega | (simp; done) | (simp; omega)) _ | with_reducible refine Below.step ?_ (by with_reducible assumption)))⟩ | exact ⟨rfl, by (repeat (first | with_reducible exact Below.refl _ _ | with_reducible assumption | with_reducible refine Below.drew ?_ | with_reducible refine Below.drewN ?_ _ | with_reducible refine Below.alloc1 ?_ _ | with_reducible refine Below.setCell1 ?_ (by first | omega | (simp; done) | (simp; omega)) _ | with_reducible refine Below.step ?_ (by with_reducible assumption)))⟩
        · have hN := hide (HN.out (fun _ => he))
          have d1 : (64 * g + (k : Int) == h) = false := by rw [beq_eq_false_iff_ne]; omega
          clear HN HA
          go_wp2
          go_roundw
          case rel => exact ⟨k + 1, by omega, by go_num, hN.out, j0, hbr⟩
          case measure => simp [intOf]; omega
    · have hr := rPlace_no (l := l) (h := h) (fun j hj => HT.out j hj (by omega))
      go_wp2
      go_ret
      first | exact ⟨ret_int hr.symm, by (repeat (first | with_reducible exact Below.refl _ _ | with_reducible assumption | with_reducible refine Below.drew ?_ | with_reducible refine Below.drewN ?_ _ | with_reducible refine Below.alloc1 ?_ _ | with_reducible refine Below.setCell1 ?_ (by first | omega | (simp; done) | (simp; omega)) _ | with_reducible refine Below.step ?_ (by with_reducible assumption)))⟩ | exact ⟨rfl, by (repeat (first | with_reducible exact Below.refl _ _ | with_reducible assumption | with_reducible refine Below.drew ?_ | with_reducible refine Below.drewN ?_ _ | with_reducible refine Below.alloc1 ?_ _ | with_reducible refine Below.setCell1 ?_ (by first | omega | (simp; done) | (simp; omega)) _ | with_reducible refine Below.step ?_ (by with_reducible assumption)))⟩
structure IsInt (e : Ending) : Prop where
  is : ∃ r, e = .returned (.int .i64 r)
set_option maxRecDepth 100000 in
set_option maxHeartbeats 8000000 in
theorem rplace_some (A B : Option Addr) (c d : Nat) (l : List Cl) (m : Nat) (h : Int) (w : World) (hl : l.length ≤ 1000) (ha : Rd w w.heap.size A (cls l)) :
    Calls Try.prog 36 #[stV A l.length c B m d, .int .i64 h] w fun e w' => IsInt e ∧ Below w.heap.size w w' := by
  go_enter Try.func36, Try.ntmps36
  go_wp2_with fail
  generalize hV : World.alloc w _ = w1
  have hb1 : Below w.heap.size w w1 := by subst hV; (repeat (first | with_reducible exact Below.refl _ _ | with_reducible assumption | with_reducible refine Below.drew ?_ | with_reducible refine Below.drewN ?_ _ | with_reducible refine Below.alloc1 ?_ _ | with_reducible refine Below.setCell1 ?_ (by first | omega | (simp; done) | (simp; omega)) _ | with_reducible refine Below.step ?_ (by with_reducible assumption)))
  have k0 : Bk w1 w.heap.size 25 (stC A l.length c B m d) := by subst hV; (repeat (first | with_reducible exact Bk.new' _ _ _ _ (by simp; done) | with_reducible assumption | with_reducible refine Bk.alloc ?_ _ | with_reducible refine Bk.drew ?_ | with_reducible refine Bk.drewN ?_ _ | with_reducible refine Bk.step ?_ (by with_reducible assumption) | with_reducible refine Bk.far ?_ (by first | omega | (simp; done) | (simp; omega)) _))
  clear hV
  go_loopw [5] (fun i wr => ∃ k : Nat, k ≤ l.length ∧ i = .int .i64 k ∧ Bk wr w.heap.size 25 (stC A l.length c B m d) ∧ Below w.heap.size w wr) (fun i _ => l.length - (intOf i).toNat)
  case atStart => exact ⟨0, Nat.zero_le _, rfl, k0, hb1⟩
  case round =>
    clear k0 hb1
    obtain ⟨k, hk, rfl, j0, hbr⟩ := hrel
    have j0_0 := j0.cell 0; have j0_f0 := j0.frozen 0; have j0_1 := j0.cell 1; have j0_f1 := j0.frozen 1; simp only [List.set_cons_zero, List.set_cons_succ, List.getElem?_cons_zero, List.getElem?_cons_succ] at j0_0 j0_1; have lt_j0 := j0.lt
    by_cases hlt : k < l.length
    · obtain ⟨ad, rfl, hadb, c1, c2, c3⟩ := (ha.below hbr).cl hlt
      generalize l[k] = x at *
      obtain ⟨g, lv, v⟩ := x
      simp only at c1 c2 c3
      cases lv with
      | false =>
        go_wp2
        go_roundw
        case rel => exact ⟨k + 1, by omega, by go_num, j0, hbr⟩
        case measure => simp [intOf]; omega
      | true =>
        go_wp2_with fail
        all_goals first
          | (go_ret; exact ⟨⟨_, rfl⟩, by (repeat (first | with_reducible exact Below.refl _ _ | with_reducible assumption | with_reducible refine Below.drew ?_ | with_reducible refine Below.drewN ?_ _ | with_reducible refine Below.alloc1 ?_ _ | with_reducible refine Below.setCell1 ?_ (by first | omega | (simp; done) | (simp; omega)) _ | with_reducible refine Below.step ?_ (by with_reducible assumption)))⟩)
          | (go_roundw
             case rel => exact ⟨k + 1, by omega, by go_num, j0, hbr⟩
             case measure => simp [intOf]; omega)
    · go_wp2
      go_ret
      exact ⟨⟨_, rfl⟩, by (repeat (first | with_reducible exact Below.refl _ _ | with_reducible assumption | with_reducible refine Below.drew ?_ | with_reducible refine Below.drewN ?_ _ | with_reducible refine Below.alloc1 ?_ _ | with_reducible refine Below.setCell1 ?_ (by first | omega | (simp; done) | (simp; omega)) _ | with_reducible refine Below.step ?_ (by with_reducible assumption)))⟩
end Go.Proofs.Ytnmpighdkdffbaa
